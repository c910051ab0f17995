/- cbpy, plain: the reference's rows, told backwards, say the same. -/
import Derived.Test.YtammpekpmjboiaaDoorCb1
set_option linter.unusedSimpArgs false
set_option linter.unusedVariables false
set_option maxRecDepth 100000
namespace Go.Proofs.YtammpekpmjboiaaDoor.Av.Cb
open Go Bt Px
def cbV : List (List UInt8) := cbR.reverse
theorem fidx_none (w : List UInt8) : ∀ (l : List (List UInt8)) (i : Nat), w ∉ l → fidx w l i = none
  | [], i, h => rfl
  | r :: l, i, h => by
    simp only [List.mem_cons, not_or] at h
    rw [fidx, if_neg (fun e => h.1 e.symm), fidx_none w l _ h.2]
theorem fidx_V (w : List UInt8) : fidx w cbV 0 = (fidx w cbR 0).map (15 - ·) := by
  by_cases hw : w ∈ cbR
  · have : ∀ x ∈ cbR, fidx x cbV 0 = (fidx x cbR 0).map (15 - ·) := by decide +kernel
    exact this w hw
  · rw [fidx_none w _ _ hw, fidx_none w cbV _ (by unfold cbV; simpa using hw)]; rfl
theorem any_V (p : List UInt8 → Bool) : cbV.any p = cbR.any p := by unfold cbV; simp
def revX (x : Int × Int × Nat) : Int × Int × Nat := (if x.2.1 = 0 then 15 - x.1 else x.1, x.2)
theorem rrun_V : ∀ (D w : List UInt8), rrun cbV D w = revX (rrun cbR D w)
  | [], w => rfl
  | x :: r, w => by
    have hlt : ∀ i, fidx (w ++ [x]) cbR 0 = some i → i ≤ 15 := fun i h => by
      have := fidx_lt _ _ _ _ h
      have hl : cbR.length = 16 := rfl
      omega
    rw [rrun, rrun, rstep, rstep, fidx_V, any_V]
    cases hf : fidx (w ++ [x]) cbR 0 with
    | some i =>
      have := hlt i hf
      simp only [Option.map_some, revX]
      rw [if_pos trivial, Int.natCast_sub this]; rfl
    | none =>
      simp only [Option.map_none]
      by_cases ha : cbR.any (fun r => (w ++ [x]).isPrefixOf r) = true
      · rw [if_pos ha]
        exact rrun_V r (w ++ [x])
      · rw [if_neg ha]; rfl
/-- the codes that Take makes its table of -/
def cbCs (b : Bool) : List (List UInt8 × Int) := cbR.zipIdx.map fun x => (x.1, trn b (x.2 : Int))
def cbT (b : Bool) : Tb := (mk (cbCs b) tb0).getD tb0
theorem cbT_ok (b : Bool) : mk (cbCs b) tb0 = some (cbT b) := by
  have : (mk (cbCs b) tb0).isSome = true := by cases b <;> decide +kernel
  unfold cbT
  cases h : mk (cbCs b) tb0 with
  | none => rw [h] at this; cases this
  | some T => rfl
theorem cbT_is (b : Bool) : TbIs (cbT b) (cbCs b) := mk_all (cbT_ok b)
theorem cbCs_rows (b : Bool) : (cbCs b).map (·.1) = cbR := by cases b <;> rfl
theorem cbT_sym (b : Bool) (i : Nat) (h : i < 16) : symAt (cbT b) i = trn b i := by
  unfold symAt
  rw [(cbT_is b).codes]
  have hl : ∀ b, ∀ i : _root_.Fin 16, ((cbCs b).getD i.val ([], 0)).2 = trn b i.val := by decide +kernel
  exact hl b ⟨i, h⟩
/-- what Take tells of digits -/
def cbX (b : Bool) (Dg : List UInt8) : Int × Int × Nat := (if (rrun cbR Dg []).2.1 = 0 then trn b (rrun cbR Dg []).1 else 0, (rrun cbR Dg []).2)
theorem cb_take (b : Bool) (Dg : List UInt8) : ttake (cbT b) Dg [] = cbX b Dg := by
  rw [ttake_rrun (cbT_is b), cbCs_rows]
  unfold cbX
  have hb := rrun_bd cbR Dg []
  have hl : cbR.length = 16 := rfl
  rw [hl] at hb
  by_cases he : (rrun cbR Dg []).2.1 = 0
  · rw [if_pos he, if_pos he]
    obtain ⟨h0, h1⟩ := hb he
    obtain ⟨n, hn⟩ := Int.eq_ofNat_of_zero_le h0
    rw [hn, cbT_sym b n (by omega)]
  · rw [if_neg he, if_neg he]
theorem trn_rev (b : Bool) (i : Int) : (if b = true then 15 - (15 - i) else 15 - i) = trn b i := by cases b <;> simp [trn]; omega
theorem cbV_short : ∀ r ∈ cbV, r.length ≤ 24 := by decide
/-- the reference's answer -/
theorem cb_ref (b : Bool) (L : List UInt8) (p : Nat) (hp : p ≤ L.length) :
    (fun x : Int × Int × Int => (if x.2.2 = 0 ∧ b = true then 15 - x.1 else x.1, x.2.1, x.2.2)) (t5 cbV L p 25 1) = ((cbX b (L.drop p)).1, ((pfin p (cbX b (L.drop p)) : Nat) : Int), (cbX b (L.drop p)).2.1) := by
  rw [t5_all cbV L p cbV_short hp, rrun_V]
  unfold cbX revX rconv pfin
  generalize rrun cbR (L.drop p) [] = y
  obtain ⟨i, e, c⟩ := y
  by_cases he : e = 0
  · subst he
    cases b
    · simp [trn]
    · simp [trn]; omega
  · simp [he]
end Go.Proofs.YtammpekpmjboiaaDoor.Av.Cb
