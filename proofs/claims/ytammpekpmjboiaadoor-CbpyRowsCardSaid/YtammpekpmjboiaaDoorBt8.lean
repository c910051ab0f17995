/- What is packed shows the row again. -/
import Derived.Test.YtammpekpmjboiaaDoorBt7
set_option linter.unusedSimpArgs false
set_option linter.unusedVariables false
set_option maxRecDepth 100000
namespace Go.Proofs.YtammpekpmjboiaaDoor.Av.Bt
open Go
theorem digs_snoc (v : Int) (n : Nat) : digs v (n + 1) (n + 1) = digs (v / 2) n n ++ [dg v] := by
  rw [digs_succ]
  congr 1
  · unfold digs
    apply List.map_congr_left
    intro j hj
    have hj' : j < n := by simpa using hj
    have e : n + 1 - 1 - j = (n - 1 - j) + 1 := by omega
    rw [e, Int.ediv_ediv_of_nonneg (by decide), Int.pow_succ, Int.mul_comm (2 ^ (n - 1 - j))]
  · simp
theorem digs_num (w : List UInt8) : w.all isDig = true → digs (numS w) w.length w.length = w := by
  refine snoc_ind (P := fun w => w.all isDig = true → digs (numS w) w.length w.length = w) (fun _ => rfl) (fun w c ih h => ?_) w
  rw [List.all_append, Bool.and_eq_true] at h
  have hc : c = 48 ∨ c = 49 := isDig_cases (by simpa using h.2)
  rw [List.length_append, List.length_singleton, digs_snoc, numS_snoc]
  have e1 : (2 * numS w + ((c.toNat : Int) - 48)) / 2 = numS w := by
    rcases hc with rfl | rfl
    · have e : (((48 : UInt8).toNat : Nat) : Int) = 48 := rfl
      rw [e]; omega
    · have e : (((49 : UInt8).toNat : Nat) : Int) = 49 := rfl
      rw [e]; omega
  have e2 : dg (2 * numS w + ((c.toNat : Int) - 48)) = c := by
    unfold dg
    rcases hc with rfl | rfl
    · have e : (((48 : UInt8).toNat : Nat) : Int) = 48 := rfl
      rw [e, show (2 * numS w + (48 - 48)) % 2 = 0 by omega]; rfl
    · have e : (((49 : UInt8).toNat : Nat) : Int) = 49 := rfl
      rw [e, show (2 * numS w + (49 - 48)) % 2 = 1 by omega]; rfl
  rw [e1, e2, ih h.1]
theorem packB_get (L : List UInt8) (q i : Nat) (h : i < q) : bt (packB L q) i = ((UInt8.ofNat (numS ((L.drop (8 * i)).take 8)).toNat).toNat : Int) := bt_get _ _ _ (by simp [packB, h])
theorem showN_pack (w : List UInt8) (h : w.all isDig = true) : showN (packN w) = padS w := by
  obtain ⟨p1, _⟩ := padN_ok w.length
  have hl := padS_len w
  have hd := padS_dig w h
  unfold packN
  generalize padS w = L at *
  generalize hq : L.length / 8 = q
  have hlen : L.length = 8 * q := by omega
  apply List.ext_getElem?
  intro p
  by_cases hp : p < 8 * q
  · have e : p = 8 * (p / 8) + p % 8 := by omega
    have hcl : ((L.drop (8 * (p / 8))).take 8).length = 8 := by rw [List.length_take, List.length_drop]; omega
    have hcd : ((L.drop (8 * (p / 8))).take 8).all isDig = true := by
      rw [List.all_eq_true] at hd ⊢
      exact fun x hx => hd x (List.mem_of_mem_drop (List.mem_of_mem_take hx))
    obtain ⟨n1, n2⟩ := numS_bd _ hcd
    rw [hcl] at n2
    have hdn := digs_num _ hcd
    rw [hcl] at hdn
    have hb : bt (packB L q) (p / 8) = numS ((L.drop (8 * (p / 8))).take 8) := by
      rw [packB_get L q _ (by omega)]
      have : ∀ m : Nat, (UInt8.ofNat m).toNat = m % 256 := fun m => by simp
      rw [this]; omega
    have h1 := showN_get (packB L q) (p / 8) (p % 8) (by rw [packB_len]; omega) (by omega)
    rw [hb, hdn, ← e, List.getElem?_take, List.getElem?_drop, if_pos (by omega)] at h1
    rw [h1]
    congr 1
    omega
  · rw [List.getElem?_eq_none (by rw [showN_len, packB_len]; omega), List.getElem?_eq_none (by omega)]
/-- a digit's number -/
def und (c : UInt8) : Int := (c.toNat : Int) - 48
theorem und_digB (b : Int) (h : b = 0 ∨ b = 1) : und (digB b) = b := by rcases h with rfl | rfl <;> rfl
theorem bitsF_pack (w : List UInt8) (h : w.all isDig = true) : bitsF (packN w) 0 = (padS w).map und := by
  have h1 := showN_drop (packN w) 0
  rw [List.drop_zero, showN_pack w h] at h1
  rw [h1, List.map_map]
  have : ∀ b ∈ bitsF (packN w) 0, (und ∘ digB) b = b := fun b hb => und_digB b (bitsF_01 _ _ b hb)
  rw [List.map_congr_left this, List.map_id']
theorem packN_len (w : List UInt8) : (packN w).length = (padS w).length / 8 := packB_len _ _
end Go.Proofs.YtammpekpmjboiaaDoor.Av.Bt
