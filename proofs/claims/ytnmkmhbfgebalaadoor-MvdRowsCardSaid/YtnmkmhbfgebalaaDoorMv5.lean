/- mvd: the program's Take and the document's are one. -/
import Derived.Test.YtnmkmhbfgebalaaDoorMv4
set_option linter.unusedSimpArgs false
set_option linter.unusedVariables false
set_option maxRecDepth 100000
namespace Go.Proofs.YtnmkmhbfgebalaaDoor.Av.Mv
open Go Bt
attribute [local irreducible] AGo ACalls
/-- the rows of all differences -/
def mrows : List (List UInt8) := (List.range 64).map fun (j : Nat) => mrow ((j : Int) - 32)
inductive MS where
  | srch (v : Int) (n : Nat) | sgn (a : Int) (n : Nat)
inductive MR where
  | done (d : Int) (c : Nat) | fail | next (s : MS)
def mstep : MS → Int → MR
  | .srch v n, b => match foundS (2 * v + b) n with
    | (a, is, may) => if may = false then .fail else if is = false then .next (.srch (2 * v + b) (n + 1)) else if a = 0 then .done 0 n else .next (.sgn a (n + 1))
  | .sgn a n, b => if b = 1 then .done (-a) n else if 31 < a then .fail else .done a n
def mrun : List Int → MS → Int × Int × Nat
  | [], _ => (0, 2, 0)
  | b :: r, s => match mstep s b with
    | .done d c => (d, 0, c)
    | .fail => (0, 3, 0)
    | .next s' => mrun r s'
theorem mrun_mt : ∀ (B : List Int) (v : Int) (n : Nat), mrun B (.srch v n) = mt B v n
  | [], v, n => rfl
  | b :: r, v, n => by
    rw [mrun, mstep, mt]
    rcases foundS (2 * v + b) n with ⟨a, is, may⟩
    cases may with
    | false => simp
    | true =>
      cases is with
      | false => simpa using mrun_mt r (2 * v + b) (n + 1)
      | true =>
        by_cases ha : a = 0
        · simp [ha]
        · simp only [Bool.true_eq_false, if_false, if_neg ha]
          cases r with
          | nil => rfl
          | cons b2 r =>
            simp only [mrun, mstep]
            by_cases h1 : b2 = 1
            · simp [h1]
            · by_cases h2 : 31 < a
              · simp [h1, h2]
              · simp [h1, h2]
/-- both tell the same, whatever digit comes -/
def agree : Nat → MS → List UInt8 → Bool
  | 0, _, _ => false
  | f + 1, s, w => [(0 : Int), 1].all fun b => match mstep s b, rstep mrows w (digB b) with
    | .done d c, .done i c' => decide (d = (i : Int) - 32) && decide (c = c')
    | .fail, .fail => true
    | .next s', .next w' => agree f s' w'
    | _, _ => false
theorem agree_all : agree 14 (.srch 0 1) [] = true := by decide +kernel
def Same (x y : Int × Int × Nat) : Prop := x.2 = y.2 ∧ (x.2.1 = 0 → x.1 = y.1 - 32) ∧ (x.2.1 ≠ 0 → x.1 = 0)
theorem agree_ok : ∀ (f : Nat) (s : MS) (w : List UInt8), agree f s w = true → ∀ B : List Int, (∀ b ∈ B, b = 0 ∨ b = 1) → Same (mrun B s) (rrun mrows (B.map digB) w)
  | 0, _, _, h, _, _ => by simp [agree] at h
  | f + 1, s, w, h, [], _ => ⟨rfl, fun h => by simp [mrun] at h, fun _ => rfl⟩
  | f + 1, s, w, h, b :: B, hB => by
    have hb : b ∈ [(0 : Int), 1] := by
      rcases hB b (by simp) with h | h <;> simp [h]
    simp only [agree] at h
    have hs := List.all_eq_true.1 h b hb
    rw [mrun, List.map_cons, rrun]
    cases hm : mstep s b with
    | done d c =>
      cases hr : rstep mrows w (digB b) with
      | done i c' =>
        rw [hm, hr] at hs
        simp only [Bool.and_eq_true, decide_eq_true_eq] at hs
        obtain ⟨rfl, rfl⟩ := hs
        exact ⟨rfl, fun _ => rfl, fun h => absurd rfl h⟩
      | fail => rw [hm, hr] at hs; cases hs
      | next w' => rw [hm, hr] at hs; cases hs
    | fail =>
      cases hr : rstep mrows w (digB b) with
      | done i c' => rw [hm, hr] at hs; cases hs
      | fail =>
        show Same (0, 3, 0) (0, 3, 0)
        refine ⟨rfl, ?_, fun _ => rfl⟩
        intro h
        simp at h
      | next w' => rw [hm, hr] at hs; cases hs
    | next s' =>
      cases hr : rstep mrows w (digB b) with
      | done i c' => rw [hm, hr] at hs; cases hs
      | fail => rw [hm, hr] at hs; cases hs
      | next w' =>
        rw [hm, hr] at hs
        exact agree_ok f s' w' hs B (fun x hx => hB x (by simp [hx]))
theorem mrows_short : ∀ r ∈ mrows, r.length ≤ 24 := by decide +kernel
theorem mrows_get (i : Nat) (h : i < 64) : mrows[i]? = some (mrow ((i : Int) - 32)) := by simp [mrows, h]
theorem mrows_take (i : Nat) (h : i < 64) : mrows.take (i + 1) = mrows.take i ++ [mrow ((i : Int) - 32)] := by
  rw [List.take_add_one, mrows_get i h]; rfl
theorem rowsD_append (a b : List (List UInt8)) : rowsD (a ++ b) = rowsD a ++ rowsD b := by simp [rowsD]
theorem rowsD_one (r : List UInt8) : rowsD [r] = [.str r] := rfl
theorem rowsD_0 : rowsD (mrows.take 0) = [] := rfl
theorem mrows_len : mrows.length = 64 := by simp [mrows]
def rsub (x : Int × Int × Int) (p : Int) : Int × Int × Int := if x.2.2 = 0 then (x.1 - 32, x.2.1, 0) else (0, p, x.2.2)
theorem rrun_bd (rows : List (List UInt8)) : ∀ (D w : List UInt8), (rrun rows D w).2.1 = 0 → 0 ≤ (rrun rows D w).1 ∧ (rrun rows D w).1 < rows.length
  | [], w, h => by simp [rrun] at h
  | x :: D, w, h => by
    have key : ∀ (w : List UInt8) (l : List (List UInt8)) (i j : Nat), fidx w l i = some j → i ≤ j ∧ j < i + l.length := by
      intro w l
      induction l with
      | nil => intro i j h; simp [fidx] at h
      | cons r l ih =>
        intro i j h
        simp only [fidx] at h
        split at h
        · simp only [Option.some.injEq] at h; subst h; simp
        · have := ih _ _ h; simp only [List.length_cons]; omega
    rw [rrun] at h ⊢
    unfold rstep at h ⊢
    cases hf : fidx (w ++ [x]) rows 0 with
    | some i =>
      have := key _ _ _ _ hf
      simp only; omega
    | none =>
      rw [hf] at h
      simp only at h ⊢
      by_cases ha : rows.any (fun r => (w ++ [x]).isPrefixOf r) = true
      · rw [if_pos ha] at h ⊢
        exact rrun_bd rows D (w ++ [x]) h
      · rw [if_neg ha] at h; simp at h
attribute [local irreducible] mrows rowsD t5 mrow
set_option maxHeartbeats 2000000 in
theorem rmtake_c {gl : List (Nat × List D)} (L : List UInt8) (p : Nat) (hL : L.length ≤ 1000000) (hp : p ≤ 1000000) (hbd : (t5 mrows L p 25 1).2.2 = 0 → 0 ≤ (t5 mrows L p 25 1).1 ∧ (t5 mrows L p 25 1).1 < 64) :
    ACalls (cxg gl) 29 [S L, I p] [] (fun r H => r = Tri (rsub (t5 mrows L p 25 1) p) ∧ H = []) := by
  have hl := mrows_len
  have ht := rtake_c (gl := gl) mrows L p (by omega) hL hp
  refine ACalls.enter Tryd.func29 rfl Tryd.ntmps29 (by kernel_rfl) rfl ?_; simp only [argEnv, Nat.reduceAdd, List.length_nil, List.length_cons]
  repeat (first | apply AGo.seq | apply AGo.block | apply AGo.blk | apply AGo.skip | apply AGo.nil | apply AGo.qnil | apply AGo.snil | (apply AGo.region; rfl) | (apply AGo.q true; rfl; rfl; rfl; rfl; first | exact True.intro | omega | (simp only [Int.toNat_natCast, Int.reduceToNat, IntKind.bits]; omega)) | (apply AGo.qq true; rfl; rfl; rfl; rfl; first | exact True.intro | omega | (simp only [Int.toNat_natCast, Int.reduceToNat, IntKind.bits]; omega)) | (apply AGo.sq true; rfl; rfl; rfl; rfl; first | exact True.intro | omega | (simp only [Int.toNat_natCast, Int.reduceToNat, IntKind.bits]; omega)) | (apply AGo.drawT; rfl; rfl; rfl; kernel_rfl) | (apply AGo.draw; rfl; kernel_rfl) | (apply AGo.exit; rfl) | (apply AGo.condDT; rfl; first | omega | rfl) | (apply AGo.condDF; rfl; omega) | (apply AGo.condT; rfl) | (apply AGo.condF; rfl) | (apply AGo.alloc; rfl; rfl; rfl; rfl; rfl; simp only [List.length_cons, List.length_nil, List.cons_append, List.nil_append, Nat.reduceAdd, List.map_cons, List.map_nil, List.set_cons_zero, List.set_cons_succ, spliceA, List.take_succ_cons, List.take_zero, List.drop_succ_cons, List.drop_zero, AV.cells, D.cells]) | (apply AGo.box; rfl; rfl; rfl; rfl; rfl; rfl; simp only [List.length_cons, List.length_nil, List.cons_append, List.nil_append, Nat.reduceAdd, List.map_cons, List.map_nil, List.set_cons_zero, List.set_cons_succ, spliceA, List.take_succ_cons, List.take_zero, List.drop_succ_cons, List.drop_zero, AV.cells, D.cells]) | (apply AGo.store; rfl; rfl; rfl; rfl; rfl; rfl; rfl; rfl; rfl; exact Nat.le_of_ble_eq_true rfl; simp only [List.length_cons, List.length_nil, List.cons_append, List.nil_append, Nat.reduceAdd, List.map_cons, List.map_nil, List.set_cons_zero, List.set_cons_succ, spliceA, List.take_succ_cons, List.take_zero, List.drop_succ_cons, List.drop_zero, AV.cells, D.cells]) | (apply AGo.build; rfl; rfl; rfl; rfl; rfl; simp only [List.length_cons, List.length_nil, List.cons_append, List.nil_append, Nat.reduceAdd, List.map_cons, List.map_nil, List.set_cons_zero, List.set_cons_succ, spliceA, List.take_succ_cons, List.take_zero, List.drop_succ_cons, List.drop_zero, AV.cells, D.cells, mkAgg, unDs, AV.unD]) | (apply AGo.qbuild; rfl; rfl; rfl; rfl; rfl; simp only [List.length_cons, List.length_nil, List.cons_append, List.nil_append, Nat.reduceAdd, List.map_cons, List.map_nil, List.set_cons_zero, List.set_cons_succ, spliceA, List.take_succ_cons, List.take_zero, List.drop_succ_cons, List.drop_zero, AV.cells, D.cells, mkAgg, unDs, AV.unD]) | (apply AGo.unguard; rfl; rfl) | (apply AGo.gT; rfl; rfl; rfl; first | omega | rfl) | (apply AGo.gF; rfl; rfl; rfl; omega) | (apply AGo.qgT; rfl; rfl; rfl; first | omega | rfl) | (apply AGo.qgF; rfl; rfl; rfl; omega) | (apply AGo.cBT; rfl; first | (simp only [Bool.or_eq_true, Bool.and_eq_true, Bool.not_eq_true', decide_eq_true_eq, decide_eq_false_iff_not]; omega)) | (apply AGo.cBF; rfl; first | (simp only [Bool.or_eq_false_iff, Bool.and_eq_false_iff, Bool.not_eq_false', decide_eq_true_eq, decide_eq_false_iff_not]; omega)) | (apply AGo.qunguard; rfl; rfl) | (apply AGo.skipOp; rfl; rfl; rfl) | (apply AGo.qskipOp; rfl; rfl; rfl) | (apply AGo.sunguard; rfl; rfl) | (apply AGo.sskipOp; rfl; rfl; rfl) | (apply AGo.sgT; rfl; rfl; rfl; first | omega | rfl) | (apply AGo.sgF; rfl; rfl; rfl; omega) | (apply AGo.buildSlice; rfl; rfl; rfl; rfl; rfl; rfl; rfl; rfl; rfl; rfl; rfl))
  refine AGo.weak (env' := [(8, I (-32)), (7, .d .nils), (1, I p), (0, S L)]) ⟨rfl, rfl, rfl, rfl, trivial⟩ ?_
  refine AGo.loop (fun m env H => ∃ i : Nat, m = 64 - i ∧ i ≤ 64 ∧ ((i = 0 ∧ env = [(8, I ((i : Int) - 32)), (7, .d .nils), (1, I p), (0, S L)] ∧ H = []) ∨
    (0 < i ∧ env = [(8, I ((i : Int) - 32)), (7, .own 1 (rowsD (mrows.take i)) 0), (1, I p), (0, S L)] ∧ H = [.front 9 1 (rowsD (mrows.take i)).length]))) 64
    ⟨0, rfl, by omega, .inl ⟨rfl, rfl, rfl⟩⟩ ?_
  rintro m env H ⟨i, rfl, hi, hcase⟩
  rcases Nat.lt_or_ge i 64 with hlt | hge
  · have e : rowsD (mrows.take (i + 1)) = rowsD (mrows.take i) ++ [.str (mrow ((i : Int) - 32))] := by rw [mrows_take i hlt, rowsD_append, rowsD_one]
    have hln : (rowsD (mrows.take i)).length = i := by rw [rowsD_len, List.length_take]; omega
    rcases hcase with ⟨hi0, rfl, rfl⟩ | ⟨h0, rfl, rfl⟩
    · repeat' (first | (apply AGo.makeF; rfl; rfl; rfl; rfl; rfl; rfl; rfl; rfl; rfl; (first | decide | (dsimp only; omega) | (simp only [List.length_cons, List.length_nil]; omega)); simp only [Int.reduceToNat, List.replicate_zero, List.length_nil, List.length_cons, Nat.reduceAdd, List.nil_append, List.cons_append]) | (apply AGo.append; rfl; rfl; rfl; rfl; rfl; rfl; rfl; rfl; rfl; rfl; rfl; (first | rfl | (simp only [List.length_append, List.length_map, List.length_cons, List.length_nil]; omega)); (first | (simp only [List.length_append, List.length_map, List.length_cons, List.length_nil]; omega) | (simp only [List.length_cons, List.length_nil]; omega)); simp only [List.set_cons_zero, List.set_cons_succ]) | (apply AGo.appendN; rfl; rfl; rfl; rfl; rfl; rfl; rfl; rfl; rfl; rfl; (first | (simp only [List.length_append, List.length_map, List.length_cons, List.length_nil]; omega) | (simp only [List.length_cons, List.length_nil]; omega)); simp only [List.nil_append, List.cons_append, List.length_nil, List.length_cons, Nat.reduceAdd]) | (apply AGo.strN; rfl; rfl; rfl; rfl; rfl; rfl; rfl; rfl; rfl; rfl; rfl) | (apply AGo.strB; rfl; rfl; rfl; rfl; rfl; rfl; rfl; rfl; rfl; rfl; rfl; rfl) | (apply AGo.qstrB; rfl; rfl; rfl; rfl; rfl; rfl; rfl; rfl; rfl; rfl; rfl; rfl) | apply AGo.seq | apply AGo.block | apply AGo.blk | apply AGo.skip | apply AGo.nil | apply AGo.qnil | apply AGo.snil | (apply AGo.region; rfl) | (apply AGo.q true; rfl; rfl; rfl; rfl; first | exact True.intro | omega | (simp only [Int.toNat_natCast, Int.reduceToNat, IntKind.bits]; omega) | (simp only [List.length_cons, List.length_nil]; omega)) | (apply AGo.qq true; rfl; rfl; rfl; rfl; first | exact True.intro | omega | (simp only [Int.toNat_natCast, Int.reduceToNat, IntKind.bits]; omega) | (simp only [List.length_cons, List.length_nil]; omega)) | (apply AGo.sq true; rfl; rfl; rfl; rfl; first | exact True.intro | omega | (simp only [Int.toNat_natCast, Int.reduceToNat, IntKind.bits]; omega) | (simp only [List.length_cons, List.length_nil]; omega)) | (apply AGo.callP (rmrow_c _); rfl; rfl; rfl; rfl; rfl; rfl) | (apply AGo.qcallP (rmrow_c _); rfl; rfl; rfl; rfl; rfl; rfl; rfl) | (apply AGo.drawT; rfl; rfl; rfl; kernel_rfl) | (apply AGo.draw; rfl; kernel_rfl) | (apply AGo.exit; rfl) | (apply AGo.condDT; rfl; first | omega | rfl) | (apply AGo.condDF; rfl; omega) | (apply AGo.condT; rfl) | (apply AGo.condF; rfl) | (apply AGo.alloc; rfl; rfl; rfl; rfl; rfl; simp only [List.length_cons, List.length_nil, List.cons_append, List.nil_append, Nat.reduceAdd, List.map_cons, List.map_nil, List.set_cons_zero, List.set_cons_succ, spliceA, List.take_succ_cons, List.take_zero, List.drop_succ_cons, List.drop_zero, AV.cells, D.cells]) | (apply AGo.box; rfl; rfl; rfl; rfl; rfl; rfl; simp only [List.length_cons, List.length_nil, List.cons_append, List.nil_append, Nat.reduceAdd, List.map_cons, List.map_nil, List.set_cons_zero, List.set_cons_succ, spliceA, List.take_succ_cons, List.take_zero, List.drop_succ_cons, List.drop_zero, AV.cells, D.cells]) | (apply AGo.store; rfl; rfl; rfl; rfl; rfl; rfl; rfl; rfl; rfl; exact Nat.le_of_ble_eq_true rfl; simp only [List.length_cons, List.length_nil, List.cons_append, List.nil_append, Nat.reduceAdd, List.map_cons, List.map_nil, List.set_cons_zero, List.set_cons_succ, spliceA, List.take_succ_cons, List.take_zero, List.drop_succ_cons, List.drop_zero, AV.cells, D.cells]) | (apply AGo.build; rfl; rfl; rfl; rfl; rfl; simp only [List.length_cons, List.length_nil, List.cons_append, List.nil_append, Nat.reduceAdd, List.map_cons, List.map_nil, List.set_cons_zero, List.set_cons_succ, spliceA, List.take_succ_cons, List.take_zero, List.drop_succ_cons, List.drop_zero, AV.cells, D.cells, mkAgg, unDs, AV.unD]) | (apply AGo.qbuild; rfl; rfl; rfl; rfl; rfl; simp only [List.length_cons, List.length_nil, List.cons_append, List.nil_append, Nat.reduceAdd, List.map_cons, List.map_nil, List.set_cons_zero, List.set_cons_succ, spliceA, List.take_succ_cons, List.take_zero, List.drop_succ_cons, List.drop_zero, AV.cells, D.cells, mkAgg, unDs, AV.unD]) | (apply AGo.unguard; rfl; rfl) | (apply AGo.gT; rfl; rfl; rfl; first | omega | rfl) | (apply AGo.gF; rfl; rfl; rfl; omega) | (apply AGo.qgT; rfl; rfl; rfl; first | omega | rfl) | (apply AGo.qgF; rfl; rfl; rfl; omega) | (apply AGo.cBT; rfl; first | (simp only [Bool.or_eq_true, Bool.and_eq_true, Bool.not_eq_true', decide_eq_true_eq, decide_eq_false_iff_not]; omega)) | (apply AGo.cBF; rfl; first | (simp only [Bool.or_eq_false_iff, Bool.and_eq_false_iff, Bool.not_eq_false', decide_eq_true_eq, decide_eq_false_iff_not]; omega)) | (apply AGo.qunguard; rfl; rfl) | (apply AGo.skipOp; rfl; rfl; rfl) | (apply AGo.qskipOp; rfl; rfl; rfl) | (apply AGo.sunguard; rfl; rfl) | (apply AGo.sskipOp; rfl; rfl; rfl) | (apply AGo.sgT; rfl; rfl; rfl; first | omega | rfl) | (apply AGo.sgF; rfl; rfl; rfl; omega) | (apply AGo.buildSlice; rfl; rfl; rfl; rfl; rfl; rfl; rfl; rfl; rfl; rfl; rfl) | intro _ | (apply AGo.condD' ; rfl) | (apply AGo.gD; rfl; rfl; rfl) | (apply AGo.qgD; rfl; rfl; rfl) | (apply AGo.sgD; rfl; rfl; rfl) | (apply AGo.retN; rfl; rfl; rfl; rfl) | (apply AGo.retL; rfl; rfl; rfl; rfl) | (apply AGo.retL2; rfl; rfl; rfl; rfl) | (apply AGo.outL; rfl; rfl))
      refine AGo.round [(8, I (((i + 1 : Nat) : Int) - 32)), (7, .own 1 (rowsD (mrows.take (i + 1))) 0), (1, I p), (0, S L)] (64 - (i + 1)) (by omega) ⟨congrArg I (by omega), ?_, rfl, rfl, trivial⟩ ⟨i + 1, rfl, hlt, .inr ⟨by omega, rfl, ?_⟩⟩
      · subst hi0; rw [e, rowsD_0]; rfl
      · subst hi0; rw [e, rowsD_0]; rfl
    · repeat' (first | (apply AGo.makeF; rfl; rfl; rfl; rfl; rfl; rfl; rfl; rfl; rfl; (first | decide | (dsimp only; omega) | (simp only [hln, List.length_cons, List.length_nil]; omega)); simp only [Int.reduceToNat, List.replicate_zero, List.length_nil, List.length_cons, Nat.reduceAdd, List.nil_append, List.cons_append]) | (apply AGo.append; rfl; rfl; rfl; rfl; rfl; rfl; rfl; rfl; rfl; rfl; rfl; (first | rfl | (simp only [List.length_append, List.length_map, List.length_cons, List.length_nil]; omega)); (first | (simp only [List.length_append, List.length_map, List.length_cons, List.length_nil]; omega) | (simp only [hln, List.length_cons, List.length_nil]; omega)); simp only [List.set_cons_zero, List.set_cons_succ]) | (apply AGo.appendN; rfl; rfl; rfl; rfl; rfl; rfl; rfl; rfl; rfl; rfl; (first | (simp only [List.length_append, List.length_map, List.length_cons, List.length_nil]; omega) | (simp only [hln, List.length_cons, List.length_nil]; omega)); simp only [List.nil_append, List.cons_append, List.length_nil, List.length_cons, Nat.reduceAdd]) | (apply AGo.strN; rfl; rfl; rfl; rfl; rfl; rfl; rfl; rfl; rfl; rfl; rfl) | (apply AGo.strB; rfl; rfl; rfl; rfl; rfl; rfl; rfl; rfl; rfl; rfl; rfl; rfl) | (apply AGo.qstrB; rfl; rfl; rfl; rfl; rfl; rfl; rfl; rfl; rfl; rfl; rfl; rfl) | apply AGo.seq | apply AGo.block | apply AGo.blk | apply AGo.skip | apply AGo.nil | apply AGo.qnil | apply AGo.snil | (apply AGo.region; rfl) | (apply AGo.q true; rfl; rfl; rfl; rfl; first | exact True.intro | omega | (simp only [Int.toNat_natCast, Int.reduceToNat, IntKind.bits]; omega) | (simp only [hln, List.length_cons, List.length_nil]; omega)) | (apply AGo.qq true; rfl; rfl; rfl; rfl; first | exact True.intro | omega | (simp only [Int.toNat_natCast, Int.reduceToNat, IntKind.bits]; omega) | (simp only [hln, List.length_cons, List.length_nil]; omega)) | (apply AGo.sq true; rfl; rfl; rfl; rfl; first | exact True.intro | omega | (simp only [Int.toNat_natCast, Int.reduceToNat, IntKind.bits]; omega) | (simp only [hln, List.length_cons, List.length_nil]; omega)) | (apply AGo.callP (rmrow_c _); rfl; rfl; rfl; rfl; rfl; rfl) | (apply AGo.qcallP (rmrow_c _); rfl; rfl; rfl; rfl; rfl; rfl; rfl) | (apply AGo.drawT; rfl; rfl; rfl; kernel_rfl) | (apply AGo.draw; rfl; kernel_rfl) | (apply AGo.exit; rfl) | (apply AGo.condDT; rfl; first | omega | rfl) | (apply AGo.condDF; rfl; omega) | (apply AGo.condT; rfl) | (apply AGo.condF; rfl) | (apply AGo.alloc; rfl; rfl; rfl; rfl; rfl; simp only [List.length_cons, List.length_nil, List.cons_append, List.nil_append, Nat.reduceAdd, List.map_cons, List.map_nil, List.set_cons_zero, List.set_cons_succ, spliceA, List.take_succ_cons, List.take_zero, List.drop_succ_cons, List.drop_zero, AV.cells, D.cells]) | (apply AGo.box; rfl; rfl; rfl; rfl; rfl; rfl; simp only [List.length_cons, List.length_nil, List.cons_append, List.nil_append, Nat.reduceAdd, List.map_cons, List.map_nil, List.set_cons_zero, List.set_cons_succ, spliceA, List.take_succ_cons, List.take_zero, List.drop_succ_cons, List.drop_zero, AV.cells, D.cells]) | (apply AGo.store; rfl; rfl; rfl; rfl; rfl; rfl; rfl; rfl; rfl; exact Nat.le_of_ble_eq_true rfl; simp only [List.length_cons, List.length_nil, List.cons_append, List.nil_append, Nat.reduceAdd, List.map_cons, List.map_nil, List.set_cons_zero, List.set_cons_succ, spliceA, List.take_succ_cons, List.take_zero, List.drop_succ_cons, List.drop_zero, AV.cells, D.cells]) | (apply AGo.build; rfl; rfl; rfl; rfl; rfl; simp only [List.length_cons, List.length_nil, List.cons_append, List.nil_append, Nat.reduceAdd, List.map_cons, List.map_nil, List.set_cons_zero, List.set_cons_succ, spliceA, List.take_succ_cons, List.take_zero, List.drop_succ_cons, List.drop_zero, AV.cells, D.cells, mkAgg, unDs, AV.unD]) | (apply AGo.qbuild; rfl; rfl; rfl; rfl; rfl; simp only [List.length_cons, List.length_nil, List.cons_append, List.nil_append, Nat.reduceAdd, List.map_cons, List.map_nil, List.set_cons_zero, List.set_cons_succ, spliceA, List.take_succ_cons, List.take_zero, List.drop_succ_cons, List.drop_zero, AV.cells, D.cells, mkAgg, unDs, AV.unD]) | (apply AGo.unguard; rfl; rfl) | (apply AGo.gT; rfl; rfl; rfl; first | omega | rfl) | (apply AGo.gF; rfl; rfl; rfl; omega) | (apply AGo.qgT; rfl; rfl; rfl; first | omega | rfl) | (apply AGo.qgF; rfl; rfl; rfl; omega) | (apply AGo.cBT; rfl; first | (simp only [Bool.or_eq_true, Bool.and_eq_true, Bool.not_eq_true', decide_eq_true_eq, decide_eq_false_iff_not]; omega)) | (apply AGo.cBF; rfl; first | (simp only [Bool.or_eq_false_iff, Bool.and_eq_false_iff, Bool.not_eq_false', decide_eq_true_eq, decide_eq_false_iff_not]; omega)) | (apply AGo.qunguard; rfl; rfl) | (apply AGo.skipOp; rfl; rfl; rfl) | (apply AGo.qskipOp; rfl; rfl; rfl) | (apply AGo.sunguard; rfl; rfl) | (apply AGo.sskipOp; rfl; rfl; rfl) | (apply AGo.sgT; rfl; rfl; rfl; first | omega | rfl) | (apply AGo.sgF; rfl; rfl; rfl; omega) | (apply AGo.buildSlice; rfl; rfl; rfl; rfl; rfl; rfl; rfl; rfl; rfl; rfl; rfl) | intro _ | (apply AGo.condD' ; rfl) | (apply AGo.gD; rfl; rfl; rfl) | (apply AGo.qgD; rfl; rfl; rfl) | (apply AGo.sgD; rfl; rfl; rfl) | (apply AGo.retN; rfl; rfl; rfl; rfl) | (apply AGo.retL; rfl; rfl; rfl; rfl) | (apply AGo.retL2; rfl; rfl; rfl; rfl) | (apply AGo.outL; rfl; rfl))
      refine AGo.round [(8, I (((i + 1 : Nat) : Int) - 32)), (7, .own 1 (rowsD (mrows.take (i + 1))) 0), (1, I p), (0, S L)] (64 - (i + 1)) (by omega) ⟨congrArg I (by omega), ?_, rfl, rfl, trivial⟩ ⟨i + 1, rfl, hlt, .inr ⟨by omega, rfl, ?_⟩⟩
      · rw [e] <;> rfl
      · rw [e] <;> rfl
  · obtain rfl : i = 64 := by omega
    rcases hcase with ⟨hi0, rfl, rfl⟩ | ⟨h0, rfl, rfl⟩
    · cases hi0
    · have e : mrows.take 64 = mrows := List.take_of_length_le (by omega)
      rw [e]
      rcases hx : t5 mrows L p 25 1 with ⟨x, y, z⟩
      rw [hx] at ht hbd
      simp only at hbd
      by_cases hz : z = 0
      · subst hz
        repeat' (first | apply AGo.seq | apply AGo.block | apply AGo.blk | apply AGo.skip | apply AGo.nil | apply AGo.qnil | apply AGo.snil | (apply AGo.region; rfl) | (apply AGo.q true; rfl; rfl; rfl; rfl; first | exact True.intro | omega | (simp only [Int.toNat_natCast, Int.reduceToNat, IntKind.bits]; omega)) | (apply AGo.qq true; rfl; rfl; rfl; rfl; first | exact True.intro | omega | (simp only [Int.toNat_natCast, Int.reduceToNat, IntKind.bits]; omega)) | (apply AGo.sq true; rfl; rfl; rfl; rfl; first | exact True.intro | omega | (simp only [Int.toNat_natCast, Int.reduceToNat, IntKind.bits]; omega)) | (apply AGo.callPF (ht); rfl; rfl; rfl; rfl; rfl; rfl; rfl) | (apply AGo.drawT; rfl; rfl; rfl; kernel_rfl) | (apply AGo.draw; rfl; kernel_rfl) | (apply AGo.exit; rfl) | (apply AGo.condDT; rfl; first | omega | rfl) | (apply AGo.condDF; rfl; omega) | (apply AGo.condT; rfl) | (apply AGo.condF; rfl) | (apply AGo.alloc; rfl; rfl; rfl; rfl; rfl; simp only [List.length_cons, List.length_nil, List.cons_append, List.nil_append, Nat.reduceAdd, List.map_cons, List.map_nil, List.set_cons_zero, List.set_cons_succ, spliceA, List.take_succ_cons, List.take_zero, List.drop_succ_cons, List.drop_zero, AV.cells, D.cells]) | (apply AGo.box; rfl; rfl; rfl; rfl; rfl; rfl; simp only [List.length_cons, List.length_nil, List.cons_append, List.nil_append, Nat.reduceAdd, List.map_cons, List.map_nil, List.set_cons_zero, List.set_cons_succ, spliceA, List.take_succ_cons, List.take_zero, List.drop_succ_cons, List.drop_zero, AV.cells, D.cells]) | (apply AGo.store; rfl; rfl; rfl; rfl; rfl; rfl; rfl; rfl; rfl; exact Nat.le_of_ble_eq_true rfl; simp only [List.length_cons, List.length_nil, List.cons_append, List.nil_append, Nat.reduceAdd, List.map_cons, List.map_nil, List.set_cons_zero, List.set_cons_succ, spliceA, List.take_succ_cons, List.take_zero, List.drop_succ_cons, List.drop_zero, AV.cells, D.cells]) | (apply AGo.build; rfl; rfl; rfl; rfl; rfl; simp only [List.length_cons, List.length_nil, List.cons_append, List.nil_append, Nat.reduceAdd, List.map_cons, List.map_nil, List.set_cons_zero, List.set_cons_succ, spliceA, List.take_succ_cons, List.take_zero, List.drop_succ_cons, List.drop_zero, AV.cells, D.cells, mkAgg, unDs, AV.unD]) | (apply AGo.qbuild; rfl; rfl; rfl; rfl; rfl; simp only [List.length_cons, List.length_nil, List.cons_append, List.nil_append, Nat.reduceAdd, List.map_cons, List.map_nil, List.set_cons_zero, List.set_cons_succ, spliceA, List.take_succ_cons, List.take_zero, List.drop_succ_cons, List.drop_zero, AV.cells, D.cells, mkAgg, unDs, AV.unD]) | (apply AGo.unguard; rfl; rfl) | (apply AGo.gT; rfl; rfl; rfl; first | omega | rfl) | (apply AGo.gF; rfl; rfl; rfl; omega) | (apply AGo.qgT; rfl; rfl; rfl; first | omega | rfl) | (apply AGo.qgF; rfl; rfl; rfl; omega) | (apply AGo.cBT; rfl; first | (simp only [Bool.or_eq_true, Bool.and_eq_true, Bool.not_eq_true', decide_eq_true_eq, decide_eq_false_iff_not]; omega)) | (apply AGo.cBF; rfl; first | (simp only [Bool.or_eq_false_iff, Bool.and_eq_false_iff, Bool.not_eq_false', decide_eq_true_eq, decide_eq_false_iff_not]; omega)) | (apply AGo.qunguard; rfl; rfl) | (apply AGo.skipOp; rfl; rfl; rfl) | (apply AGo.qskipOp; rfl; rfl; rfl) | (apply AGo.sunguard; rfl; rfl) | (apply AGo.sskipOp; rfl; rfl; rfl) | (apply AGo.sgT; rfl; rfl; rfl; first | omega | rfl) | (apply AGo.sgF; rfl; rfl; rfl; omega) | (apply AGo.buildSlice; rfl; rfl; rfl; rfl; rfl; rfl; rfl; rfl; rfl; rfl; rfl) | intro _ | (apply AGo.condD' ; rfl) | (apply AGo.gD; rfl; rfl; rfl) | (apply AGo.qgD; rfl; rfl; rfl) | (apply AGo.sgD; rfl; rfl; rfl) | (apply AGo.retN; rfl; rfl; rfl; rfl) | (apply AGo.retL; rfl; rfl; rfl; rfl) | (apply AGo.retL2; rfl; rfl; rfl; rfl) | (apply AGo.outL; rfl; rfl))
        all_goals first | omega | exact ⟨rfl, rfl⟩ | trace_state
      · repeat' (first | apply AGo.seq | apply AGo.block | apply AGo.blk | apply AGo.skip | apply AGo.nil | apply AGo.qnil | apply AGo.snil | (apply AGo.region; rfl) | (apply AGo.q true; rfl; rfl; rfl; rfl; first | exact True.intro | omega | (simp only [Int.toNat_natCast, Int.reduceToNat, IntKind.bits]; omega)) | (apply AGo.qq true; rfl; rfl; rfl; rfl; first | exact True.intro | omega | (simp only [Int.toNat_natCast, Int.reduceToNat, IntKind.bits]; omega)) | (apply AGo.sq true; rfl; rfl; rfl; rfl; first | exact True.intro | omega | (simp only [Int.toNat_natCast, Int.reduceToNat, IntKind.bits]; omega)) | (apply AGo.callPF (ht); rfl; rfl; rfl; rfl; rfl; rfl; rfl) | (apply AGo.drawT; rfl; rfl; rfl; kernel_rfl) | (apply AGo.draw; rfl; kernel_rfl) | (apply AGo.exit; rfl) | (apply AGo.condDT; rfl; first | omega | rfl) | (apply AGo.condDF; rfl; omega) | (apply AGo.condT; rfl) | (apply AGo.condF; rfl) | (apply AGo.alloc; rfl; rfl; rfl; rfl; rfl; simp only [List.length_cons, List.length_nil, List.cons_append, List.nil_append, Nat.reduceAdd, List.map_cons, List.map_nil, List.set_cons_zero, List.set_cons_succ, spliceA, List.take_succ_cons, List.take_zero, List.drop_succ_cons, List.drop_zero, AV.cells, D.cells]) | (apply AGo.box; rfl; rfl; rfl; rfl; rfl; rfl; simp only [List.length_cons, List.length_nil, List.cons_append, List.nil_append, Nat.reduceAdd, List.map_cons, List.map_nil, List.set_cons_zero, List.set_cons_succ, spliceA, List.take_succ_cons, List.take_zero, List.drop_succ_cons, List.drop_zero, AV.cells, D.cells]) | (apply AGo.store; rfl; rfl; rfl; rfl; rfl; rfl; rfl; rfl; rfl; exact Nat.le_of_ble_eq_true rfl; simp only [List.length_cons, List.length_nil, List.cons_append, List.nil_append, Nat.reduceAdd, List.map_cons, List.map_nil, List.set_cons_zero, List.set_cons_succ, spliceA, List.take_succ_cons, List.take_zero, List.drop_succ_cons, List.drop_zero, AV.cells, D.cells]) | (apply AGo.build; rfl; rfl; rfl; rfl; rfl; simp only [List.length_cons, List.length_nil, List.cons_append, List.nil_append, Nat.reduceAdd, List.map_cons, List.map_nil, List.set_cons_zero, List.set_cons_succ, spliceA, List.take_succ_cons, List.take_zero, List.drop_succ_cons, List.drop_zero, AV.cells, D.cells, mkAgg, unDs, AV.unD]) | (apply AGo.qbuild; rfl; rfl; rfl; rfl; rfl; simp only [List.length_cons, List.length_nil, List.cons_append, List.nil_append, Nat.reduceAdd, List.map_cons, List.map_nil, List.set_cons_zero, List.set_cons_succ, spliceA, List.take_succ_cons, List.take_zero, List.drop_succ_cons, List.drop_zero, AV.cells, D.cells, mkAgg, unDs, AV.unD]) | (apply AGo.unguard; rfl; rfl) | (apply AGo.gT; rfl; rfl; rfl; first | omega | rfl) | (apply AGo.gF; rfl; rfl; rfl; omega) | (apply AGo.qgT; rfl; rfl; rfl; first | omega | rfl) | (apply AGo.qgF; rfl; rfl; rfl; omega) | (apply AGo.cBT; rfl; first | (simp only [Bool.or_eq_true, Bool.and_eq_true, Bool.not_eq_true', decide_eq_true_eq, decide_eq_false_iff_not]; omega)) | (apply AGo.cBF; rfl; first | (simp only [Bool.or_eq_false_iff, Bool.and_eq_false_iff, Bool.not_eq_false', decide_eq_true_eq, decide_eq_false_iff_not]; omega)) | (apply AGo.qunguard; rfl; rfl) | (apply AGo.skipOp; rfl; rfl; rfl) | (apply AGo.qskipOp; rfl; rfl; rfl) | (apply AGo.sunguard; rfl; rfl) | (apply AGo.sskipOp; rfl; rfl; rfl) | (apply AGo.sgT; rfl; rfl; rfl; first | omega | rfl) | (apply AGo.sgF; rfl; rfl; rfl; omega) | (apply AGo.buildSlice; rfl; rfl; rfl; rfl; rfl; rfl; rfl; rfl; rfl; rfl; rfl) | intro _ | (apply AGo.condD' ; rfl) | (apply AGo.gD; rfl; rfl; rfl) | (apply AGo.qgD; rfl; rfl; rfl) | (apply AGo.sgD; rfl; rfl; rfl) | (apply AGo.retN; rfl; rfl; rfl; rfl) | (apply AGo.retL; rfl; rfl; rfl; rfl) | (apply AGo.retL2; rfl; rfl; rfl; rfl) | (apply AGo.outL; rfl; rfl))
        all_goals first | omega | exact ⟨by simp only [rsub, if_neg hz], rfl⟩ | trace_state
end Go.Proofs.YtnmkmhbfgebalaaDoor.Av.Mv
