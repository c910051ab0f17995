/- Cells: what stands ahead of a cell's pattern is written. -/
import Derived.Test.YtbfojhfiemcnpaaDoorCo4
import Derived.Test.YtbfojhfiemcnpaaDoorMb4
import Derived.Test.YtbfojhfiemcnpaaDoorPq3
import Derived.Test.YtbfojhfiemcnpaaDoorCb1
set_option linter.unusedSimpArgs false
set_option linter.unusedVariables false
set_option maxRecDepth 100000
namespace Go.Proofs.YtbfojhfiemcnpaaDoor.Av.Co
open Go Bt Tc Wr Bl Mb
attribute [local irreducible] AGo ACalls
variable {gl : List (Nat × List D)}
noncomputable abbrev gA : List (Nat × List D) := [(0, gl0), (3, gl3), (1, gl1), (2, gl2)]
theorem gsp_A : ∀ p ∈ gsp, p ∈ gA := by simp [gsp, gA]
theorem gtc_A : ∀ p ∈ gtc, p ∈ gA := by simp [gtc, gA]
theorem gmv_A : ∀ p ∈ [(0, gl0)], p ∈ gA := by simp [gA]
def again (b : Bool) : List UInt8 := if b = true then [48] else []
def stuffRow (b : Bool) : List UInt8 := again b ++ mbRow b 5 0
def chroma (c : Cel) : Int := (((codedS c).toNat &&& (3 : Int).toNat : Nat) : Int)
theorem codedS_bd (c : Cel) : 0 ≤ codedS c ∧ codedS c ≤ 63 := by
  have := bitS'_bd c.e0
  have := bitS'_bd c.e1
  have := bitS'_bd c.e2
  have := bitS'_bd c.e3
  have := bitS'_bd c.e4
  have := bitS'_bd c.e5
  unfold codedS; omega
theorem chroma_eq (c : Cel) : chroma c = codedS c % 4 := by
  have h := codedS_bd c
  have e : (codedS c).toNat &&& (3 : Int).toNat = (codedS c).toNat % 2 ^ 2 := Nat.and_two_pow_sub_one_eq_mod _ 2
  unfold chroma
  rw [e]; omega
def tailRow (b : Bool) (c : Cel) : List UInt8 := if c.skip = true then [49] else again b ++ mbRow b c.kind (chroma c)
def headRow (b : Bool) (c : Cel) : List UInt8 := (List.replicate c.stuff.toNat (stuffRow b)).flatten ++ tailRow b c
theorem mbIs_st : ∀ b : Bool, mbIs b 5 0 = true := by decide +kernel
theorem mbIs_all : ∀ b : Bool, ∀ k : _root_.Fin 5, ∀ ch : _root_.Fin 4, (intraS k.val || (b && decide ((k.val : Int) = 0 ∨ (k.val : Int) = 1))) = true → mbIs b k.val ch.val = true := by decide +kernel
theorem headMay_bd {b : Bool} {c : Cel} (h : headMay b c = true) : 0 ≤ c.kind ∧ c.kind ≤ 4 := by
  unfold headMay intraS at h
  simp only [Bool.or_eq_true, Bool.and_eq_true, decide_eq_true_eq] at h
  omega
theorem mbIs_cel {b : Bool} {c : Cel} (h : headMay b c = true) : mbIs b c.kind (chroma c) = true := by
  have hb := headMay_bd h
  have hc := codedS_bd c
  rw [chroma_eq]
  have := mbIs_all b ⟨c.kind.toNat, by omega⟩ ⟨(codedS c % 4).toNat, by omega⟩
  simp only at this
  rw [show ((c.kind.toNat : Nat) : Int) = c.kind by omega, show (((codedS c % 4).toNat : Nat) : Int) = codedS c % 4 by omega] at this
  exact this h
theorem again_ok (b : Bool) : (again b).all isDig = true ∧ (again b).length ≤ 1 := by cases b <;> decide
theorem stuffRow_ok (b : Bool) : (stuffRow b).all isDig = true ∧ (stuffRow b).length ≤ 10 := by
  obtain ⟨_, h2, h3⟩ := mbRow_in b 5 0 (mbIs_st b)
  obtain ⟨a1, a2⟩ := again_ok b
  unfold stuffRow
  rw [List.all_append, a1, h3, List.length_append]
  exact ⟨rfl, by omega⟩
theorem rep_ok (r : List UInt8) (h : r.all isDig = true) (n : Nat) : ((List.replicate n r).flatten).all isDig = true ∧ ((List.replicate n r).flatten).length = n * r.length := by
  induction n with
  | zero => simp
  | succ n ih =>
    rw [List.replicate_succ, List.flatten_cons, List.all_append, h, ih.1, List.length_append, ih.2, Nat.succ_mul]
    exact ⟨rfl, by omega⟩
theorem rep_succ (r : List UInt8) (n : Nat) : (List.replicate (n + 1) r).flatten = (List.replicate n r).flatten ++ r := by
  rw [List.replicate_succ', List.flatten_append]; simp
theorem tailRow_ok {b : Bool} {c : Cel} (h : c.skip = true ∨ headMay b c = true) : (tailRow b c).all isDig = true ∧ (tailRow b c).length ≤ 10 := by
  unfold tailRow
  split
  · exact ⟨rfl, by decide⟩
  · rename_i hs
    have h' : headMay b c = true := by rcases h with h | h; exact absurd h hs; exact h
    obtain ⟨_, h2, h3⟩ := mbRow_in b c.kind (chroma c) (mbIs_cel h')
    obtain ⟨a1, a2⟩ := again_ok b
    rw [List.all_append, a1, h3, List.length_append]
    exact ⟨rfl, by omega⟩
abbrev celA (c : Cel) : List AV := [I c.stuff, B c.skip, I c.kind, I c.step, I c.mx, I c.my, I c.d0, I c.d1, I c.d2, I c.d3, I c.d4, I c.d5, .d (evS c.e0), .d (evS c.e1), .d (evS c.e2), .d (evS c.e3), .d (evS c.e4), .d (evS c.e5)]
attribute [local irreducible] evsD octets packN mbRow mbIs codedS
set_option maxHeartbeats 8000000 in
theorem head_c (w : List UInt8) (b : Bool) (c : Cel) (hs : 0 ≤ c.stuff ∧ c.stuff ≤ 64) (h : c.skip = true ∨ headMay b c = true) (hw : w.all isDig = true) (hwl : w.length ≤ 20000000) :
    ACalls (cxg gA) 27 [.ptr 0 0, B b, .d (celD c)] (WO w) (fun r H => r = .tup [] ∧ H = WO (w ++ headRow b c)) := by
  have m5 := (mbrow_c b 5 0).more gsp_A
  rw [mbIs_st b] at m5
  obtain ⟨s1, s2⟩ := stuffRow_ok b
  have rk := fun n => rep_ok (stuffRow b) s1 n
  have inv : ∀ n, n ≤ 64 → (w ++ (List.replicate n (stuffRow b)).flatten).all isDig = true ∧ (w ++ (List.replicate n (stuffRow b)).flatten).length ≤ 20000640 := fun n hn => by
    obtain ⟨k1, k2⟩ := rk n
    have : n * (stuffRow b).length ≤ 64 * 10 := Nat.mul_le_mul hn s2
    rw [List.all_append, hw, k1, List.length_append, k2]
    exact ⟨rfl, by omega⟩
  obtain ⟨n, hn⟩ := Int.eq_ofNat_of_zero_le hs.1
  obtain ⟨i1, i2⟩ := inv n (by omega)
  obtain ⟨t1, t2⟩ := tailRow_ok h
  have at1 := wadd_c (gl := gA) (w ++ (List.replicate n (stuffRow b)).flatten) (tailRow b c) i1 t1 (by omega)
  have cc := (coded_c (gl := gA) c)
  have mc := (mbrow_c b c.kind (chroma c)).more gsp_A
  have hml : (mbRow b 5 0).length ≤ 9 := (mbRow_in b 5 0 (mbIs_st b)).2.1
  have hfin : w ++ headRow b c = w ++ (List.replicate n (stuffRow b)).flatten ++ tailRow b c := by
    unfold headRow; rw [hn, Int.toNat_natCast, List.append_assoc]
  rw [hfin]
  have e0 : w = w ++ (List.replicate 0 (stuffRow b)).flatten := by simp
  have hadd := fun i hi => wadd_c (gl := gA) (w ++ (List.replicate i (stuffRow b)).flatten) (stuffRow b) (inv i hi).1 s1 (by have := (inv i hi).2; omega)
  have hsr : stuffRow b = again b ++ mbRow b 5 0 := rfl
  have htr : tailRow b c = if c.skip = true then [49] else again b ++ mbRow b c.kind (chroma c) := rfl
  have hcd := codedS_bd c
  have hm5 : (again b ++ mbRow b 5 0).length ≤ 100 := by have := (again_ok b).2; rw [List.length_append]; omega
  have hmk : headMay b c = true → (again b ++ mbRow b c.kind (chroma c)).length ≤ 100 := fun hh => by
    have := (again_ok b).2
    have := (mbRow_in b c.kind (chroma c) (mbIs_cel hh)).2.1
    rw [List.length_append]; omega
  rw [htr] at at1 ⊢
  rcases Bool.eq_false_or_eq_true b with hb | hb
  all_goals
    refine ACalls.enter Tryd.func27 rfl Tryd.ntmps27 (by kernel_rfl) rfl ?_; simp only [argEnv, Nat.reduceAdd, List.length_nil, List.length_cons]
    repeat (first | apply AGo.seq | apply AGo.block | apply AGo.blk | apply AGo.skip | apply AGo.nil | apply AGo.qnil | (apply AGo.region; rfl) | ((first | apply AGo.q true | apply AGo.qq true); rfl; rfl; rfl; rfl; first | exact True.intro | omega | (simp only [Int.toNat_natCast, Int.reduceToNat, IntKind.bits]; omega)) | (apply AGo.callP (m5); (iterate 6 rfl)) | (apply AGo.qcallP (m5); (iterate 7 rfl)) | (apply AGo.drawQ; rfl; rfl; decide +kernel) | (apply AGo.condDT; rfl; first | omega | rfl) | (apply AGo.condDF; rfl; omega) | (apply AGo.box; (iterate 6 rfl); simp only [nm, Nat.reduceAdd, spliceA, AV.cells, D.cells]) | (apply AGo.cBT; rfl; first | (simp only [bT]; omega) | (exact hb)) | (apply AGo.cBF; rfl; first | (simp only [bF]; omega) | exact ndF rfl | (exact hb)))
    refine AGo.weak (env' := [(19, I ((0 : Nat) : Int)), (18, I c.stuff), (7, S (mbRow b 5 0)), (6, S (again b)), (5, .ptr 2 0), (0, .ptr 0 0), (1, B b)]) ⟨rfl, rfl, rfl, congrArg S (by rw [hb]; rfl), rfl, rfl, rfl, trivial⟩ ?_
    refine AGo.loop (fun m env H => ∃ i : Nat, m = n - i ∧ i ≤ n ∧ env = [(19, I (i : Int)), (18, I c.stuff), (7, S (mbRow b 5 0)), (6, S (again b)), (5, .ptr 2 0), (0, .ptr 0 0), (1, B b)] ∧
      H = [.cells [.ms 1 (octets (packN (w ++ (List.replicate i (stuffRow b)).flatten))).length, I (w ++ (List.replicate i (stuffRow b)).flatten).length], .arr 5 1 (octets (packN (w ++ (List.replicate i (stuffRow b)).flatten))), .cells (celA c)]) n
      ⟨0, rfl, by omega, rfl, by rw [← e0]⟩ ?_
    rintro m env H ⟨i, rfl, hi, rfl, rfl⟩
    rcases Nat.lt_or_ge i n with hlt | hge
    · have ad := hadd i (by omega)
      rw [List.append_assoc, ← rep_succ, hsr] at ad
      repeat' (first | apply AGo.seq | apply AGo.block | apply AGo.blk | apply AGo.skip | apply AGo.nil | apply AGo.qnil | (apply AGo.region; rfl) | ((first | apply AGo.q true | apply AGo.qq true); rfl; rfl; rfl; rfl; first | exact True.intro | omega | (simp only [Int.toNat_natCast, Int.reduceToNat, IntKind.bits]; omega) | (simp only [List.length_append] at *; omega)) | (apply AGo.callH [0,1] ( ad); (iterate 6 rfl); decide; rfl; rfl; simp only [names, putH, AV.ren, AV.renL, AObj.ren, nh, Nat.reduceAdd, Nat.reduceSub]) | (apply AGo.drawQ; rfl; rfl; decide +kernel) | (apply AGo.condDT; rfl; first | omega | rfl) | (apply AGo.condDF; rfl; omega) | (apply AGo.box; (iterate 6 rfl); simp only [nm, Nat.reduceAdd, spliceA, AV.cells, D.cells]) | (apply AGo.cBT; rfl; first | (simp only [bT]; omega)) | (apply AGo.cBF; rfl; first | (simp only [bF]; omega) | exact ndF rfl) | intro _ | (apply AGo.retN; rfl; rfl; rfl; rfl) | (apply AGo.outL; rfl; rfl))
      all_goals first | exact AGo.round [(19, I ((i + 1 : Nat) : Int)), (18, I c.stuff), (7, S (mbRow b 5 0)), (6, S (again b)), (5, .ptr 2 0), (0, .ptr 0 0), (1, B b)] (n - (i + 1)) (by omega) ⟨rfl, rfl, rfl, rfl, rfl, rfl, rfl, trivial⟩ ⟨i + 1, rfl, hlt, rfl, rfl⟩ | trace_state
    · obtain rfl : i = n := by omega
      cases hk : c.skip with
      | true =>
        rw [hk] at at1
        simp only [if_true] at at1 ⊢
        repeat' (first | apply AGo.seq | apply AGo.block | apply AGo.blk | apply AGo.skip | apply AGo.nil | apply AGo.qnil | (apply AGo.region; rfl) | ((first | apply AGo.q true | apply AGo.qq true); rfl; rfl; rfl; rfl; first | exact True.intro | omega | (simp only [Int.toNat_natCast, Int.reduceToNat, IntKind.bits]; omega)) | (apply AGo.callH [0,1] ( at1); (iterate 6 rfl); decide; rfl; rfl; simp only [names, putH, AV.ren, AV.renL, AObj.ren, nh, Nat.reduceAdd, Nat.reduceSub]) | (apply AGo.drawQ; rfl; rfl; decide +kernel) | (apply AGo.condDT; rfl; first | omega | rfl) | (apply AGo.condDF; rfl; omega) | (apply AGo.box; (iterate 6 rfl); simp only [nm, Nat.reduceAdd, spliceA, AV.cells, D.cells]) | (apply AGo.cBT; rfl; first | (simp only [bT]; omega) | (exact hk)) | (apply AGo.cBF; rfl; first | (simp only [bF]; omega) | exact ndF rfl | (exact hk)) | (apply AGo.endN; rfl; rfl; rfl; rfl) | intro _ | (apply AGo.retN; rfl; rfl; rfl; rfl) | (apply AGo.outL; rfl; rfl))
        all_goals first | exact ⟨rfl, rfl⟩ | trace_state
      | false =>
        rw [hk] at at1
        simp only [Bool.false_eq_true, if_false] at at1 ⊢
        have hh : headMay b c = true := by rcases h with h | h; rw [hk] at h; cases h; exact h
        rw [mbIs_cel hh] at mc
        have hmk' := hmk hh
        repeat' (first | apply AGo.seq | apply AGo.block | apply AGo.blk | apply AGo.skip | apply AGo.nil | apply AGo.qnil | (apply AGo.region; rfl) | ((first | apply AGo.q true | apply AGo.qq true); rfl; rfl; rfl; rfl; first | exact True.intro | omega | (simp only [Int.toNat_natCast, Int.reduceToNat, IntKind.bits]; omega) | (simp only [List.length_append] at *; omega) | (exact ⟨by omega, by omega⟩)) | (apply AGo.callH [0,1] ( at1); (iterate 6 rfl); decide; rfl; rfl; simp only [names, putH, AV.ren, AV.renL, AObj.ren, nh, Nat.reduceAdd, Nat.reduceSub]) | (apply AGo.callP (mc); (iterate 6 rfl)) | (apply AGo.qcallP (mc); (iterate 7 rfl)) | (apply AGo.callP (cc); (iterate 6 rfl)) | (apply AGo.qcallP (cc); (iterate 7 rfl)) | (apply AGo.drawQ; rfl; rfl; decide +kernel) | (apply AGo.condDT; rfl; first | omega | rfl) | (apply AGo.condDF; rfl; omega) | (apply AGo.box; (iterate 6 rfl); simp only [nm, Nat.reduceAdd, spliceA, AV.cells, D.cells]) | (apply AGo.cBT; rfl; first | (simp only [bT]; omega) | (exact hk)) | (apply AGo.cBF; rfl; first | (simp only [bF]; omega) | exact ndF rfl | (exact hk)) | (apply AGo.endN; rfl; rfl; rfl; rfl) | intro _ | (apply AGo.retN; rfl; rfl; rfl; rfl) | (apply AGo.outL; rfl; rfl))
        all_goals first | exact ⟨rfl, rfl⟩ | trace_state
end Go.Proofs.YtbfojhfiemcnpaaDoor.Av.Co
