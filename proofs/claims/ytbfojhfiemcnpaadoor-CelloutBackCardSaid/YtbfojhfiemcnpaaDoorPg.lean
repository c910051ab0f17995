/- prefix.Make: a table of codes, or none. Tables: Take, Len, Longest. The plain law of tables: what Take tells is what the document tells. The laws of tables: the example. -/
import Derived.Test.YtbfojhfiemcnpaaDoorPf
import Derived.Test.YtbfojhfiemcnpaaDoorPd2
/- prefix.Make: a table of codes, or none. -/
set_option linter.unusedSimpArgs false
set_option linter.unusedVariables false
set_option maxRecDepth 100000
namespace Go.Proofs.YtbfojhfiemcnpaaDoor.Av.Px
open Go Bt
attribute [local irreducible] AGo ACalls
variable {gl : List (Nat × List D)}
/-- codes taken in one by one -/
def mk : List (List UInt8 × Int) → Tb → Option Tb
  | [], t => some t
  | p :: r, t => if addB t p.1 p.2 = true then mk r (addT t p.1 p.2) else none
def tb0 : Tb := ⟨[], [], [], [], 0⟩
theorem smap_nil : smap [] = [] := rfl
theorem imap_nil : imap [] = [] := rfl
theorem codesD_get (cs : List (List UInt8 × Int)) (i : Nat) (p : List UInt8 × Int) (h : cs[i]? = some p) : (codesD cs).getD i .top = codeD p := by simp [codesD, List.getD, h]
theorem codes_load (ti : TI) (ha : ti.agg = true) (hs : ti.size = 2) (cs : List (List UInt8 × Int)) (i : Nat) (p : List UInt8 × Int) (h : cs[i]? = some p) : loadD ti ((codesD cs).getD i .top).cells 0 = some (codeD p) := by
  rw [codesD_get cs i p h]
  unfold loadD codeD
  rw [ha, hs]; rfl
/-- bounds that hold of a table of so many codes -/
structure TbOk (t : Tb) (i : Nat) : Prop where
  len : t.codes.length = i
  beg : ∀ w, 0 ≤ gval w t.beg ∧ gval w t.beg ≤ 24 * i
  lng : 0 ≤ t.lng ∧ t.lng ≤ 24
theorem tb0_ok : TbOk tb0 0 := ⟨rfl, fun w => by simp [tb0, gval_nil], by decide⟩
theorem right_le (row : List UInt8) (h : rightB row = true) : row.length ≤ 24 := by
  unfold rightB at h
  simp only [Bool.and_eq_true, decide_eq_true_eq] at h
  exact h.1.2
theorem TbOk.add {t : Tb} {i : Nat} (h : TbOk t i) {row : List UInt8} {sy : Int} (hb : addB t row sy = true) : TbOk (addT t row sy) (i + 1) := by
  obtain ⟨_, h2, _⟩ := (addB_iff t row sy).1 hb
  have hr := right_le row h2
  refine ⟨by simp [addT, h.len], fun w => ?_, ?_⟩
  · have := bumps_bd row t.beg (24 * i) h.beg row.length w
    simp only [addT]; omega
  · have := h.lng
    simp only [addT]; omega
theorem mk_cons (p : List UInt8 × Int) (r : List (List UInt8 × Int)) (t : Tb) : mk (p :: r) t = if addB t p.1 p.2 = true then mk r (addT t p.1 p.2) else none := rfl
theorem mk_nil (t : Tb) : mk [] t = some t := rfl
def envBnd (m : Nat) : Env → Bool
  | [] => true
  | (_, v) :: r => v.bnd m && envBnd m r
theorem envBnd_get (m : Nat) : ∀ (env : Env), envBnd m env = true → ∀ i, (env.get i).bnd m = true
  | [], _, i => rfl
  | (j, v) :: r, h, i => by
    simp only [envBnd, Bool.and_eq_true] at h
    simp only [Env.get]
    cases Nat.beq j i with
    | true => exact h.1
    | false => exact envBnd_get m r h.2 i
theorem drop_cut' {α : Type} (l : List α) (i : Nat) (x : α) (h : l[i]? = some x) : l.drop i = x :: l.drop (i + 1) := by
  have hl := getElem?_lt h
  rw [List.drop_eq_getElem_cons hl]
  congr 1
  simpa [hl] using h
def codeA (p : List UInt8 × Int) : List AV := [S p.1, I p.2]
attribute [local irreducible] smap imap codesD addB addT mk
/-- the objects of a table in Make: its maps, the table, the loop's code, the first code, the row of codes -/
def tobM (t : Tb) (c f : List AV) : List AObj := [.map (smap t.sym), .map (imap t.rws), .map (smap t.beg), .cells [.own 2 (codesD t.codes) 6, .mp 0, .mp 1, .mp 2, I t.lng], .cells c, .cells f, .front 99 2 (codesD t.codes).length]
def tobI : List AObj := [.map (smap []), .map (imap []), .map (smap []), .cells [.d .nils, .mp 0, .mp 1, .mp 2, I 0]]
set_option maxHeartbeats 8000000 in
theorem make_ok (cs : List (List UInt8 × Int)) (p0 : List UInt8 × Int) (T : Tb) (h0 : cs[0]? = some p0) (h2 : cs.length ≤ 256) (hr : ∀ p ∈ cs, p.1.length ≤ 1000000) (hT : mk cs tb0 = some T) :
    ACalls (cxg gl) 59 [.d (.sl 2 (codesD cs))] [] (fun r H => r = .tup [.ptr 3 0, I 0] ∧ H = tobM T (codeA p0) (codeA p0)) := by
  have hln := codesD_len cs
  have h1 := getElem?_lt h0
  refine ACalls.enter Tryd.func59 rfl Tryd.ntmps59 (by kernel_rfl) rfl ?_; simp only [argEnv, Nat.reduceAdd, List.length_nil, List.length_cons]
  repeat (first | apply AGo.seq | apply AGo.block | apply AGo.blk | apply AGo.skip | apply AGo.nil | (apply AGo.region; rfl) | (apply AGo.q true; rfl; rfl; rfl; rfl; first | exact True.intro | omega | (simp only [Int.toNat_natCast, Int.reduceToNat, IntKind.bits]; omega)) | (apply AGo.condDT; rfl; first | omega | rfl) | (apply AGo.condDF; rfl; omega) | (apply AGo.condF; rfl) | (apply AGo.alloc; (iterate 5 rfl); simp only [nm, Nat.reduceAdd, spliceA, AV.cells, D.cells]) | (apply AGo.box; (iterate 6 rfl); simp only [nm, Nat.reduceAdd, spliceA, AV.cells, D.cells]) | (apply AGo.store; (iterate 9 rfl); exact Nat.le_of_ble_eq_true rfl; simp only [nm, Nat.reduceAdd, spliceA, AV.cells, D.cells]) | (apply AGo.build; (iterate 5 rfl); simp only [nm, Nat.reduceAdd, spliceA, AV.cells, D.cells, mkAgg, unDs, AV.unD]) | (apply AGo.unguard; rfl; rfl) | (apply AGo.gF; rfl; rfl; rfl; omega) | (apply AGo.makeMap; rfl; rfl; rfl; rfl; simp only [List.length_cons, List.length_nil, Nat.reduceAdd, List.cons_append, List.nil_append]))
  rw [hln]
  refine AGo.weak (env' := [(22, I 0), (21, I cs.length), (20, .d (.sl 2 (codesD cs))), (4, .ptr 3 0)]) ⟨rfl, rfl, rfl, rfl, trivial⟩ ?_
  refine AGo.loop (fun m env H => ∃ (i : Nat) (t : Tb), m = cs.length - i ∧ i ≤ cs.length ∧ TbOk t i ∧ mk (cs.drop i) t = mk cs tb0 ∧ env = [(22, I (i : Int)), (21, I cs.length), (20, .d (.sl 2 (codesD cs))), (4, .ptr 3 0)] ∧ ((i = 0 ∧ t = tb0 ∧ H = tobI) ∨ (0 < i ∧ H = tobM t (codeA p0) (codeA p0)))) cs.length
    ⟨0, tb0, rfl, by omega, tb0_ok, rfl, rfl, .inl ⟨rfl, rfl, by unfold tobI; rw [smap_nil, imap_nil]⟩⟩ ?_
  rintro m env H ⟨i, t, rfl, hi, hok, hmk, rfl, hcase⟩
  rcases Nat.lt_or_ge i cs.length with hlt | hge
  · obtain ⟨p, hp⟩ : ∃ p, cs[i]? = some p := ⟨_, List.getElem?_eq_getElem hlt⟩
    have hrl := hr p (List.mem_of_getElem? hp)
    have g1 := fun (ti : TI) (ha : ti.agg = true) (hs : ti.size = 2) => codes_load ti ha hs cs i p hp
    rw [drop_cut' cs i p hp, mk_cons] at hmk
    cases hb : addB t p.1 p.2 with
    | false =>
      rw [hb] at hmk
      rw [if_neg (by decide), hT] at hmk
      cases hmk
    | true =>
      rw [if_pos hb] at hmk
      have hok' := hok.add hb
      have hN : ∀ w, 0 ≤ gval w t.beg ∧ gval w t.beg ≤ 1000000 := fun w => by have := hok.beg w; omega
      have hL := hok.lng
      have hC := hok.len
      rcases hcase with ⟨hi0, rfl, rfl⟩ | ⟨hi0, rfl⟩
      · subst hi0
        have e0 : p = p0 := by rw [h0] at hp; exact (Option.some.inj hp).symm
        subst e0
        have ha := add_good0 (gl := gl) tb0 p.1 p.2 hrl hb hN (by omega) rfl
        unfold tobI
        unfold tob0 tob2 at ha
        repeat' (first | apply AGo.seq | apply AGo.block | apply AGo.blk | apply AGo.skip | apply AGo.nil | (apply AGo.region; rfl) | (apply AGo.q true; rfl; rfl; rfl; rfl; first | exact True.intro | omega | (simp only [Int.toNat_natCast, Int.reduceToNat, IntKind.bits]; omega) | (rw [hln]; omega)) | (apply AGo.callH [3,0,1,2] ( ha); (iterate 6 rfl); decide; rfl; rfl; simp only [names, putH, AV.ren, AV.renL, AObj.ren, nh, Nat.reduceAdd, Nat.reduceSub]) | (apply AGo.condDT; rfl; first | omega | rfl) | (apply AGo.condDF; rfl; omega) | (apply AGo.condF; rfl) | (apply AGo.alloc; (iterate 5 rfl); simp only [nm, Nat.reduceAdd, spliceA, AV.cells, D.cells]) | (apply AGo.box; (iterate 6 rfl); simp only [nm, Nat.reduceAdd, spliceA, AV.cells, D.cells]) | (apply AGo.store; (iterate 9 rfl); exact Nat.le_of_ble_eq_true rfl; simp only [nm, Nat.reduceAdd, spliceA, AV.cells, D.cells]) | (apply AGo.build; (iterate 5 rfl); simp only [nm, Nat.reduceAdd, spliceA, AV.cells, D.cells, mkAgg, unDs, AV.unD]) | (apply AGo.unguard; rfl; rfl) | (apply AGo.gF; rfl; rfl; rfl; omega) | (apply AGo.loadDD; (iterate 6 rfl); exact (g1 _ rfl rfl)) | (apply AGo.makeMap; rfl; rfl; rfl; rfl; simp only [List.length_cons, List.length_nil, Nat.reduceAdd, List.cons_append, List.nil_append]) | intro _)
        exact AGo.round [(22, I ((0 + 1 : Nat) : Int)), (21, I cs.length), (20, .d (.sl 2 (codesD cs))), (4, .ptr 3 0)] (cs.length - 1) (by omega) ⟨rfl, rfl, rfl, rfl, trivial⟩ ⟨1, _, rfl, hlt, hok', hmk, rfl, .inr ⟨by omega, rfl⟩⟩
      · have ha := add_good1 (gl := gl) t p.1 p.2 hrl hb hN (by omega) (by omega)
        unfold tobM
        unfold tob1 at ha
        repeat' (first | apply AGo.seq | apply AGo.block | apply AGo.blk | apply AGo.skip | apply AGo.nil | (apply AGo.region; rfl) | (apply AGo.q true; rfl; rfl; rfl; rfl; first | exact True.intro | omega | (simp only [Int.toNat_natCast, Int.reduceToNat, IntKind.bits]; omega) | (rw [hln]; omega)) | (apply AGo.callH [3,0,1,2,6] ( ha); (iterate 6 rfl); decide; rfl; rfl; simp only [names, putH, AV.ren, AV.renL, AObj.ren, nh, Nat.reduceAdd, Nat.reduceSub]) | (apply AGo.condDT; rfl; first | omega | rfl) | (apply AGo.condDF; rfl; omega) | (apply AGo.condF; rfl) | (apply AGo.alloc; (iterate 5 rfl); simp only [nm, Nat.reduceAdd, spliceA, AV.cells, D.cells]) | (apply AGo.box; (iterate 6 rfl); simp only [nm, Nat.reduceAdd, spliceA, AV.cells, D.cells]) | (apply AGo.store; (iterate 9 rfl); exact Nat.le_of_ble_eq_true rfl; simp only [nm, Nat.reduceAdd, spliceA, AV.cells, D.cells]) | (apply AGo.build; (iterate 5 rfl); simp only [nm, Nat.reduceAdd, spliceA, AV.cells, D.cells, mkAgg, unDs, AV.unD]) | (apply AGo.unguard; rfl; rfl) | (apply AGo.gF; rfl; rfl; rfl; omega) | (apply AGo.loadDD; (iterate 6 rfl); exact (g1 _ rfl rfl)) | (apply AGo.makeMap; rfl; rfl; rfl; rfl; simp only [List.length_cons, List.length_nil, Nat.reduceAdd, List.cons_append, List.nil_append]) | intro _)
        refine AGo.drop 7 (env' := [(22, I ((i + 1 : Nat) : Int)), (21, I cs.length), (20, .d (.sl 2 (codesD cs))), (4, .ptr 3 0)]) (Nat.zero_le _) (by simp) (fun o ho => objsBnd_mem (m := 7) rfl o ho) ⟨rfl, rfl, rfl, rfl, trivial⟩ (envBnd_get 7 _ rfl) ?_
        exact AGo.round [(22, I ((i + 1 : Nat) : Int)), (21, I cs.length), (20, .d (.sl 2 (codesD cs))), (4, .ptr 3 0)] (cs.length - (i + 1)) (by omega) ⟨rfl, rfl, rfl, rfl, trivial⟩ ⟨i + 1, _, rfl, hlt, hok', hmk, rfl, .inr ⟨by omega, rfl⟩⟩
  · obtain rfl : i = cs.length := by omega
    rw [List.drop_length, mk_nil] at hmk
    rw [hT] at hmk
    obtain rfl := Option.some.inj hmk
    rcases hcase with ⟨hi0, _, _⟩ | ⟨hi0, rfl⟩
    · omega
    · repeat (first | apply AGo.seq | apply AGo.block | apply AGo.blk | apply AGo.skip | apply AGo.nil | (apply AGo.region; rfl) | (apply AGo.q true; rfl; rfl; rfl; rfl; first | exact True.intro | omega | (simp only [Int.toNat_natCast, Int.reduceToNat, IntKind.bits]; omega)) | (apply AGo.condDT; rfl; first | omega | rfl) | (apply AGo.condDF; rfl; omega) | (apply AGo.condF; rfl) | (apply AGo.alloc; (iterate 5 rfl); simp only [nm, Nat.reduceAdd, spliceA, AV.cells, D.cells]) | (apply AGo.box; (iterate 6 rfl); simp only [nm, Nat.reduceAdd, spliceA, AV.cells, D.cells]) | (apply AGo.store; (iterate 9 rfl); exact Nat.le_of_ble_eq_true rfl; simp only [nm, Nat.reduceAdd, spliceA, AV.cells, D.cells]) | (apply AGo.build; (iterate 5 rfl); simp only [nm, Nat.reduceAdd, spliceA, AV.cells, D.cells, mkAgg, unDs, AV.unD]) | (apply AGo.unguard; rfl; rfl) | (apply AGo.gF; rfl; rfl; rfl; omega))
      refine AGo.out rfl ⟨_, rfl, ?_⟩
      unfold tobM
      repeat (first | apply AGo.seq | apply AGo.block | apply AGo.blk | apply AGo.skip | apply AGo.nil | (apply AGo.region; rfl) | (apply AGo.q true; rfl; rfl; rfl; rfl; first | exact True.intro | omega | (simp only [Int.toNat_natCast, Int.reduceToNat, IntKind.bits]; omega)) | (apply AGo.condDT; rfl; first | omega | rfl) | (apply AGo.condDF; rfl; omega) | (apply AGo.condF; rfl) | (apply AGo.alloc; (iterate 5 rfl); simp only [nm, Nat.reduceAdd, spliceA, AV.cells, D.cells]) | (apply AGo.box; (iterate 6 rfl); simp only [nm, Nat.reduceAdd, spliceA, AV.cells, D.cells]) | (apply AGo.store; (iterate 9 rfl); exact Nat.le_of_ble_eq_true rfl; simp only [nm, Nat.reduceAdd, spliceA, AV.cells, D.cells]) | (apply AGo.build; (iterate 5 rfl); simp only [nm, Nat.reduceAdd, spliceA, AV.cells, D.cells, mkAgg, unDs, AV.unD]) | (apply AGo.unguard; rfl; rfl) | (apply AGo.gF; rfl; rfl; rfl; omega))
      (apply AGo.retK 7; rfl; rfl; rfl; rfl; rfl)
      exact ⟨rfl, rfl⟩
end Go.Proofs.YtbfojhfiemcnpaaDoor.Av.Px

/- Tables: Take, Len, Longest. -/
set_option linter.unusedSimpArgs false
set_option linter.unusedVariables false
set_option maxRecDepth 100000
namespace Go.Proofs.YtbfojhfiemcnpaaDoor.Av.Px
open Go Bt
attribute [local irreducible] AGo ACalls
variable {gl : List (Nat × List D)}
theorem take1_bit (s : List UInt8) (p : Nat) (hs : s.length < 1000000000000000) (h : p < 8 * s.length) : ACalls (cxg gl) 56 [.ptr 0 0, I 1] [Rd s p] (fun r H => r = .tup [I (bitS s p), I 0] ∧ H = [Rd s ((p + 1 : Nat) : Int)]) := by
  have := take1_c (gl := gl) s p (by omega) hs (by omega)
  rwa [show pk1 s p = (bitS s p, 0) by unfold pk1; rw [if_neg (by omega)], show Bt.tk1 s p = ((p + 1 : Nat) : Int) by unfold Bt.tk1; rw [if_neg (by omega)]; omega] at this
theorem take1_end (s : List UInt8) (p : Nat) (hs : s.length < 1000000000000000) (h : p = 8 * s.length) : ACalls (cxg gl) 56 [.ptr 0 0, I 1] [Rd s p] (fun r H => r = .tup [I 0, I 2] ∧ H = [Rd s p]) := by
  have := take1_c (gl := gl) s p (by omega) hs (by omega)
  rwa [show pk1 s p = (0, 2) by unfold pk1; rw [if_pos (by omega)], show Bt.tk1 s p = p by unfold Bt.tk1; rw [if_pos (by omega)]] at this
/-- the symbol of a code by its number -/
def symAt (t : Tb) (i : Int) : Int := (t.codes.getD i.toNat ([], 0)).2
/-- what a table tells of digits: the symbol, what is wrong, how many digits -/
def ttake (t : Tb) : List UInt8 → List UInt8 → Int × Int × Nat
  | [], _ => (0, 2, 0)
  | x :: r, w => match gfind (w ++ [x]) t.sym 0 with
    | some (_, i) => (symAt t i, 0, w.length + 1)
    | none => if gval (w ++ [x]) t.beg = 0 then (0, 3, 0) else ttake t r (w ++ [x])
def pfin (p : Nat) (x : Int × Int × Nat) : Nat := if x.2.1 = 0 then p + x.2.2 else p
theorem dig_slice (b : Int) (h : b = 0 ∨ b = 1) : (([48, 49] : List UInt8).take (b + 1).toNat).drop b.toNat = [digB b] := by rcases h with rfl | rfl <;> rfl
theorem codes_at (t : Tb) (i : Int) (h : 0 ≤ i ∧ i < (t.codes.length : Int)) : (codesD t.codes).getD i.toNat .top = codeD ((t.codes.getD i.toNat ([], 0)).1, symAt t i) := by
  have hl : i.toNat < t.codes.length := by omega
  rw [codesD_get t.codes i.toNat t.codes[i.toNat] (by simp [hl])]
  unfold symAt
  simp [List.getD, hl]
attribute [local irreducible] smap imap codesD bitS bitsF symAt digB
set_option maxHeartbeats 8000000 in
theorem ttake_c (t : Tb) (s : List UInt8) (p : Nat) (hs : s.length ≤ 1000000) (hp : p ≤ 8 * s.length) (hsym : ∀ w j i, gfind w t.sym 0 = some (j, i) → 0 ≤ i ∧ i < (t.codes.length : Int)) :
    ACalls (cxg gl) 58 [.ptr 3 0, .ptr 4 0] [.map (smap t.sym), .map (imap t.rws), .map (smap t.beg), .cells [.own 2 (codesD t.codes) 5, .mp 0, .mp 1, .mp 2, I t.lng], Rd s p, .front 99 2 (codesD t.codes).length]
      (fun r H => r = .tup [I (ttake t ((bitsF s p).map digB) []).1, I (ttake t ((bitsF s p).map digB) []).2.1] ∧
        H = [.map (smap t.sym), .map (imap t.rws), .map (smap t.beg), .cells [.own 2 (codesD t.codes) 5, .mp 0, .mp 1, .mp 2, I t.lng], Rd s (pfin p (ttake t ((bitsF s p).map digB) [])), .front 99 2 (codesD t.codes).length]) := by
  have hcl := codesD_len t.codes
  refine ACalls.enter Tryd.func58 rfl Tryd.ntmps58 (by kernel_rfl) rfl ?_; simp only [argEnv, Nat.reduceAdd, List.length_nil, List.length_cons]
  repeat (first | apply AGo.seq | apply AGo.block | apply AGo.blk | apply AGo.skip | apply AGo.nil | (apply AGo.region; rfl) | (apply AGo.q true; rfl; rfl; rfl; rfl; first | exact True.intro | omega | (simp only [Int.toNat_natCast, Int.reduceToNat, IntKind.bits]; omega)) | (apply AGo.callH [4] ( at_c s p); (iterate 6 rfl); decide; rfl; rfl; simp only [names, putH, AV.ren, AV.renL, AObj.ren, nh, Nat.reduceAdd, Nat.reduceSub]) | (apply AGo.condDT; rfl; first | omega | rfl) | (apply AGo.condDF; rfl; omega) | (apply AGo.condT; rfl) | (apply AGo.condF; rfl) | (apply AGo.unguard; rfl; rfl))
  refine AGo.weak (env' := [(8, S []), (7, I p), (6, I 0), (1, .ptr 4 0), (0, .ptr 3 0)]) ⟨rfl, rfl, rfl, rfl, rfl, trivial⟩ ?_
  refine AGo.loop (fun m env H => ∃ (k : Nat) (w : List UInt8), m = 8 * s.length - (p + k) ∧ p + k ≤ 8 * s.length ∧ w.length = k ∧ ttake t ((bitsF s (p + k)).map digB) w = ttake t ((bitsF s p).map digB) [] ∧
    env = [(8, S w), (7, I p), (6, I 0), (1, .ptr 4 0), (0, .ptr 3 0)] ∧ H = [.map (smap t.sym), .map (imap t.rws), .map (smap t.beg), .cells [.own 2 (codesD t.codes) 5, .mp 0, .mp 1, .mp 2, I t.lng], Rd s ((p + k : Nat) : Int), .front 99 2 (codesD t.codes).length]) (8 * s.length - p)
    ⟨0, [], by simp, by omega, rfl, rfl, rfl, rfl⟩ ?_
  rintro m env H ⟨k, w, rfl, hk, hw, hm, rfl, rfl⟩
  have sk := fun q : Nat => seek_ok (gl := gl) s q p (by omega) ⟨by omega, by omega⟩
  rcases Nat.lt_or_ge (p + k) (8 * s.length) with hlt | hge
  · rw [bitsF_cons s _ hlt, List.map_cons, ttake] at hm
    have t1 := take1_bit (gl := gl) s (p + k) (by omega) hlt
    have hb := bitS_bd s ((p + k : Nat) : Int)
    have he := dig_slice (bitS s ((p + k : Nat) : Int)) (by omega)
    generalize bitS s ((p + k : Nat) : Int) = b at *
    have f3 := mfind_smap (w ++ (([48, 49] : List UInt8).take (b + 1).toNat).drop b.toNat) t.sym 0
    have f4 := mfind_smap (w ++ (([48, 49] : List UInt8).take (b + 1).toNat).drop b.toNat) t.beg 0
    rw [he] at f3 f4
    have hln : (w ++ (([48, 49] : List UInt8).take (b + 1).toNat).drop b.toNat).length = k + 1 := by rw [he, List.length_append, hw]; rfl
    cases h5 : gfind (w ++ [digB b]) t.sym 0 with
    | some jv =>
      obtain ⟨j, i⟩ := jv
      rw [h5] at f3 hm
      have hi := hsym _ _ _ h5
      have hcg := codes_at t i hi
      rw [← he] at f3
      simp only at hm
      rw [← hm]
      repeat' (first | apply AGo.seq | apply AGo.block | apply AGo.blk | apply AGo.skip | apply AGo.nil | (apply AGo.region; rfl) | (apply AGo.q true; rfl; rfl; rfl; rfl; first | exact True.intro | omega | (simp only [Int.toNat_natCast, Int.reduceToNat, IntKind.bits]; omega) | (simp only [List.length_drop, List.length_take, List.length_cons, List.length_nil, hw]; omega) | (rw [hcl]; omega)) | (apply AGo.callH [4] ( t1); (iterate 6 rfl); decide; rfl; rfl; simp only [names, putH, AV.ren, AV.renL, AObj.ren, nh, Nat.reduceAdd, Nat.reduceSub]) | (apply AGo.condDT; rfl; first | omega | rfl) | (apply AGo.condDF; rfl; omega) | (apply AGo.condT; rfl) | (apply AGo.condF; rfl) | (apply AGo.unguard; rfl; rfl) | (apply AGo.lookup; (iterate 13 rfl); kernel_rfl; exact f3; rfl) | (rw [hcg]) | intro _ | (apply AGo.retL; rfl; rfl; rfl; rfl))
      all_goals first | exact ⟨rfl, by rw [hw]; rfl⟩ | trace_state
    | none =>
      rw [h5] at f3 hm
      rw [← he] at f3
      simp only at hm
      cases h6 : gfind (w ++ [digB b]) t.beg 0 with
      | none =>
        rw [h6] at f4
        rw [← he] at f4
        rw [gval_none h6, if_pos rfl] at hm
        rw [← hm]
        repeat' (first | apply AGo.seq | apply AGo.block | apply AGo.blk | apply AGo.skip | apply AGo.nil | (apply AGo.region; rfl) | (apply AGo.q true; rfl; rfl; rfl; rfl; first | exact True.intro | omega | (simp only [Int.toNat_natCast, Int.reduceToNat, IntKind.bits]; omega) | (simp only [List.length_drop, List.length_take, List.length_cons, List.length_nil, hw]; omega)) | (apply AGo.callH [4] ( t1); (iterate 6 rfl); decide; rfl; rfl; simp only [names, putH, AV.ren, AV.renL, AObj.ren, nh, Nat.reduceAdd, Nat.reduceSub]) | (apply AGo.callH [4] ( sk (p + k + 1)); (iterate 6 rfl); decide; rfl; rfl; simp only [names, putH, AV.ren, AV.renL, AObj.ren, nh, Nat.reduceAdd, Nat.reduceSub]) | (apply AGo.condDT; rfl; first | omega | rfl) | (apply AGo.condDF; rfl; omega) | (apply AGo.condT; rfl) | (apply AGo.condF; rfl) | (apply AGo.unguard; rfl; rfl) | (apply AGo.lookup; (iterate 13 rfl); kernel_rfl; exact f3; rfl) | (apply AGo.lookup; (iterate 13 rfl); kernel_rfl; exact f4; rfl) | intro _ | (apply AGo.retL; rfl; rfl; rfl; rfl))
        all_goals first | exact ⟨rfl, rfl⟩ | trace_state
      | some jv =>
        obtain ⟨j, n⟩ := jv
        rw [h6] at f4
        rw [← he] at f4
        rw [gval_some h6] at hm
        by_cases hn : n = 0
        · subst hn
          rw [if_pos rfl] at hm
          rw [← hm]
          repeat' (first | apply AGo.seq | apply AGo.block | apply AGo.blk | apply AGo.skip | apply AGo.nil | (apply AGo.region; rfl) | (apply AGo.q true; rfl; rfl; rfl; rfl; first | exact True.intro | omega | (simp only [Int.toNat_natCast, Int.reduceToNat, IntKind.bits]; omega) | (simp only [List.length_drop, List.length_take, List.length_cons, List.length_nil, hw]; omega)) | (apply AGo.callH [4] ( t1); (iterate 6 rfl); decide; rfl; rfl; simp only [names, putH, AV.ren, AV.renL, AObj.ren, nh, Nat.reduceAdd, Nat.reduceSub]) | (apply AGo.callH [4] ( sk (p + k + 1)); (iterate 6 rfl); decide; rfl; rfl; simp only [names, putH, AV.ren, AV.renL, AObj.ren, nh, Nat.reduceAdd, Nat.reduceSub]) | (apply AGo.condDT; rfl; first | omega | rfl) | (apply AGo.condDF; rfl; omega) | (apply AGo.condT; rfl) | (apply AGo.condF; rfl) | (apply AGo.unguard; rfl; rfl) | (apply AGo.lookup; (iterate 13 rfl); kernel_rfl; exact f3; rfl) | (apply AGo.lookup; (iterate 13 rfl); kernel_rfl; exact f4; rfl) | intro _ | (apply AGo.retL; rfl; rfl; rfl; rfl))
          all_goals first | exact ⟨rfl, rfl⟩ | trace_state
        · rw [if_neg hn] at hm
          repeat' (first | apply AGo.seq | apply AGo.block | apply AGo.blk | apply AGo.skip | apply AGo.nil | (apply AGo.region; rfl) | (apply AGo.q true; rfl; rfl; rfl; rfl; first | exact True.intro | omega | (simp only [Int.toNat_natCast, Int.reduceToNat, IntKind.bits]; omega) | (simp only [List.length_drop, List.length_take, List.length_cons, List.length_nil, hw]; omega)) | (apply AGo.callH [4] ( t1); (iterate 6 rfl); decide; rfl; rfl; simp only [names, putH, AV.ren, AV.renL, AObj.ren, nh, Nat.reduceAdd, Nat.reduceSub]) | (apply AGo.condDT; rfl; first | omega | rfl) | (apply AGo.condDF; rfl; omega) | (apply AGo.condT; rfl) | (apply AGo.condF; rfl) | (apply AGo.unguard; rfl; rfl) | (apply AGo.lookup; (iterate 13 rfl); kernel_rfl; exact f3; rfl) | (apply AGo.lookup; (iterate 13 rfl); kernel_rfl; exact f4; rfl) | intro _ | (apply AGo.retL; rfl; rfl; rfl; rfl))
          exact AGo.round [(8, S (w ++ [digB b])), (7, I p), (6, I 0), (1, .ptr 4 0), (0, .ptr 3 0)] (8 * s.length - (p + (k + 1))) (by omega) ⟨congrArg S (by rw [← he]), rfl, rfl, rfl, rfl, trivial⟩ ⟨k + 1, w ++ [digB b], rfl, by omega, by rw [List.length_append, hw]; rfl, hm, rfl, rfl⟩
  · have hpk : p + k = 8 * s.length := by omega
    rw [bitsF_nil s _ hge, List.map_nil, ttake] at hm
    rw [← hm]
    have t1 := take1_end (gl := gl) s (p + k) (by omega) hpk
    repeat' (first | apply AGo.seq | apply AGo.block | apply AGo.blk | apply AGo.skip | apply AGo.nil | (apply AGo.region; rfl) | (apply AGo.q true; rfl; rfl; rfl; rfl; first | exact True.intro | omega | (simp only [Int.toNat_natCast, Int.reduceToNat, IntKind.bits]; omega)) | (apply AGo.callH [4] ( t1); (iterate 6 rfl); decide; rfl; rfl; simp only [names, putH, AV.ren, AV.renL, AObj.ren, nh, Nat.reduceAdd, Nat.reduceSub]) | (apply AGo.callH [4] ( sk (p + k)); (iterate 6 rfl); decide; rfl; rfl; simp only [names, putH, AV.ren, AV.renL, AObj.ren, nh, Nat.reduceAdd, Nat.reduceSub]) | (apply AGo.condDT; rfl; first | omega | rfl) | (apply AGo.condDF; rfl; omega) | (apply AGo.condT; rfl) | (apply AGo.condF; rfl) | (apply AGo.unguard; rfl; rfl) | intro _ | (apply AGo.retL; rfl; rfl; rfl; rfl))
    all_goals first | exact ⟨rfl, rfl⟩ | trace_state
end Go.Proofs.YtbfojhfiemcnpaaDoor.Av.Px

/- The plain law of tables: what Take tells is what the document tells. -/
set_option linter.unusedSimpArgs false
set_option linter.unusedVariables false
set_option maxRecDepth 100000
namespace Go.Proofs.YtbfojhfiemcnpaaDoor.Av.Px
open Go Bt
theorem bumps_val (row w : List UInt8) (hw : w ≠ []) (l : List (List UInt8 × Int)) : ∀ k, k ≤ row.length → gval w (bumps row k l) = gval w l + (if w.length ≤ k ∧ w.isPrefixOf row = true then 1 else 0)
  | 0, _ => by
    have : ¬ w.length ≤ 0 := fun h => hw (List.eq_nil_of_length_eq_zero (by omega))
    rw [if_neg (fun h => this h.1)]; simp [bumps]
  | k + 1, hk => by
    have hk' : k ≤ row.length := by omega
    rw [bumps, gval_put]
    have hne : row.take (k + 1) ≠ [] := fun h => by
      have := congrArg List.length h
      rw [List.length_take, List.length_nil] at this; omega
    have hlen : (row.take (k + 1)).length = k + 1 := by rw [List.length_take]; omega
    by_cases e : w = row.take (k + 1)
    · rw [if_pos e]
      have h1 := bumps_val row (row.take (k + 1)) hne l k hk'
      rw [if_neg (by rw [hlen]; omega)] at h1
      rw [h1, e, hlen, if_pos ⟨Nat.le_refl _, List.isPrefixOf_iff_prefix.2 (List.take_prefix _ _)⟩]; omega
    · rw [if_neg e, bumps_val row w hw l k hk']
      congr 1
      by_cases hp : w.isPrefixOf row = true
      · have hpe := List.prefix_iff_eq_take.1 (List.isPrefixOf_iff_prefix.1 hp)
        have hne' : w.length ≠ k + 1 := fun h => e (by rw [← h]; exact hpe)
        by_cases hl : w.length ≤ k
        · rw [if_pos ⟨hl, hp⟩, if_pos ⟨by omega, hp⟩]
        · rw [if_neg (fun h => hl h.1), if_neg (fun h => by have := h.1; omega)]
      · rw [if_neg (fun h => hp h.2), if_neg (fun h => hp h.2)]
/-- codes by their numbers -/
def numd {α : Type} (l : List α) : List (α × Int) := List.zipWith (fun (i : Nat) (x : α) => (x, (i : Int))) (List.range l.length) l
theorem numd_snoc {α : Type} (l : List α) (x : α) : numd (l ++ [x]) = numd l ++ [(x, (l.length : Int))] := by
  unfold numd
  rw [List.length_append, List.length_singleton, List.range_succ, List.zipWith_append (by simp)]
  rfl
theorem gfind_append {α : Type} [DecidableEq α] (w : α) : ∀ (l r : List (α × Int)) (i : Nat), gfind w (l ++ r) i = match gfind w l i with | some x => some x | none => gfind w r (i + l.length)
  | [], r, i => by simp [gfind]
  | (k, v) :: l, r, i => by
    simp only [List.cons_append, gfind]
    by_cases h : w = k
    · simp [h]
    · rw [if_neg h, if_neg h, gfind_append w l r (i + 1), List.length_cons]
      rw [show i + 1 + l.length = i + (l.length + 1) by omega]
theorem fidx_append (w : List UInt8) : ∀ (l r : List (List UInt8)) (i : Nat), fidx w (l ++ r) i = match fidx w l i with | some x => some x | none => fidx w r (i + l.length)
  | [], r, i => by simp [fidx]
  | x :: l, r, i => by
    simp only [List.cons_append, fidx]
    by_cases h : x = w
    · simp [h]
    · rw [if_neg h, if_neg h, fidx_append w l r (i + 1), List.length_cons]
      rw [show i + 1 + l.length = i + (l.length + 1) by omega]
theorem gfind_numd (w : List UInt8) (l : List (List UInt8)) : gfind w (numd l) 0 = (fidx w l 0).map fun (i : Nat) => (i, (i : Int)) := by
  refine snoc_ind (P := fun l => gfind w (numd l) 0 = (fidx w l 0).map fun (i : Nat) => (i, (i : Int))) rfl (fun l x ih => ?_) l
  rw [numd_snoc, gfind_append, fidx_append, ih]
  have hl : (numd l).length = l.length := by simp [numd]
  cases fidx w l 0 with
  | some i => rfl
  | none =>
    simp only [Option.map_none, gfind, fidx, Nat.zero_add, hl]
    by_cases h : w = x
    · rw [if_pos h, if_pos h.symm]; rfl
    · rw [if_neg h, if_neg (fun e => h e.symm)]; rfl
/-- what a table has taken in -/
structure TbIs (t : Tb) (cs : List (List UInt8 × Int)) : Prop where
  codes : t.codes = cs
  sym : t.sym = numd (cs.map (·.1))
  rws : t.rws = numd (cs.map (·.2))
  beg : ∀ w, w ≠ [] → gval w t.beg = ((cs.filter fun p => w.isPrefixOf p.1).length : Int)
theorem tb0_is : TbIs tb0 [] := ⟨rfl, rfl, rfl, fun w _ => rfl⟩
theorem TbIs.add {t : Tb} {cs : List (List UInt8 × Int)} (h : TbIs t cs) (row : List UInt8) (sy : Int) : TbIs (addT t row sy) (cs ++ [(row, sy)]) := by
  have hl : t.codes.length = cs.length := by rw [h.codes]
  refine ⟨by simp [addT, h.codes], ?_, ?_, fun w hw => ?_⟩
  · simp only [addT, List.map_append, List.map_singleton]
    rw [numd_snoc, h.sym, hl, List.length_map]
  · simp only [addT, List.map_append, List.map_singleton]
    rw [numd_snoc, h.rws, hl, List.length_map]
  · simp only [addT]
    rw [bumps_val row w hw t.beg row.length (Nat.le_refl _), h.beg w hw, List.filter_append, List.length_append]
    by_cases hp : w.isPrefixOf row = true
    · rw [if_pos ⟨(List.isPrefixOf_iff_prefix.1 hp).length_le, hp⟩]; simp [hp]
    · rw [if_neg (fun h => hp h.2)]; simp [hp]
theorem mk_is : ∀ (rest : List (List UInt8 × Int)) (t T : Tb) (cs : List (List UInt8 × Int)), TbIs t cs → mk rest t = some T → TbIs T (cs ++ rest)
  | [], t, T, cs, h, hm => by rw [mk_nil] at hm; cases hm; simpa using h
  | p :: r, t, T, cs, h, hm => by
    rw [mk_cons] at hm
    split at hm
    · have := mk_is r _ T _ (h.add p.1 p.2) hm
      simpa using this
    · cases hm
theorem mk_all {cs : List (List UInt8 × Int)} {T : Tb} (h : mk cs tb0 = some T) : TbIs T cs := by simpa using mk_is cs tb0 T [] tb0_is h
theorem fidx_lt (w : List UInt8) : ∀ (l : List (List UInt8)) (i j : Nat), fidx w l i = some j → i ≤ j ∧ j < i + l.length
  | [], i, j, h => by simp [fidx] at h
  | r :: l, i, j, h => by
    simp only [fidx] at h
    split at h
    · simp only [Option.some.injEq] at h; subst h; simp
    · have := fidx_lt w l _ _ h; simp only [List.length_cons]; omega
theorem TbIs.symOk {t : Tb} {cs : List (List UInt8 × Int)} (h : TbIs t cs) : ∀ w j i, gfind w t.sym 0 = some (j, i) → 0 ≤ i ∧ i < (t.codes.length : Int) := by
  intro w j i hf
  rw [h.sym, gfind_numd] at hf
  cases hx : fidx w (cs.map (·.1)) 0 with
  | none => simp [hx] at hf
  | some k =>
    simp [hx] at hf
    obtain ⟨rfl, rfl⟩ := hf
    have := fidx_lt _ _ _ _ hx
    rw [h.codes]
    simp at this; omega
/-- Take tells the symbol of the row that the document tells -/
theorem ttake_rrun {t : Tb} {cs : List (List UInt8 × Int)} (h : TbIs t cs) : ∀ (D w : List UInt8), ttake t D w = (if (rrun (cs.map (·.1)) D w).2.1 = 0 then symAt t (rrun (cs.map (·.1)) D w).1 else 0, (rrun (cs.map (·.1)) D w).2)
  | [], w => rfl
  | x :: D, w => by
    rw [ttake, rrun, rstep, h.sym, gfind_numd]
    have hne : w ++ [x] ≠ [] := by simp
    have hb := h.beg (w ++ [x]) hne
    cases hf : fidx (w ++ [x]) (cs.map (·.1)) 0 with
    | some i => rfl
    | none =>
      simp only [Option.map_none]
      have hany : (cs.map (·.1)).any (fun r => (w ++ [x]).isPrefixOf r) = true ↔ ¬ gval (w ++ [x]) t.beg = 0 := by
        rw [hb, List.any_map, List.any_eq_true]
        constructor
        · rintro ⟨p, hp, hpp⟩ h0
          have : (cs.filter fun p => (w ++ [x]).isPrefixOf p.1) = [] := List.eq_nil_of_length_eq_zero (by omega)
          have hm : p ∈ cs.filter fun p => (w ++ [x]).isPrefixOf p.1 := List.mem_filter.2 ⟨hp, hpp⟩
          rw [this] at hm; cases hm
        · intro h0
          cases hl : cs.filter fun p => (w ++ [x]).isPrefixOf p.1 with
          | nil => rw [hl] at h0; exact (h0 rfl).elim
          | cons p r =>
            have hm : p ∈ cs.filter fun p => (w ++ [x]).isPrefixOf p.1 := by rw [hl]; simp
            obtain ⟨h1, h2⟩ := List.mem_filter.1 hm
            exact ⟨p, h1, h2⟩
      by_cases h0 : gval (w ++ [x]) t.beg = 0
      · rw [if_pos h0, if_neg (fun e => hany.1 e h0)]; rfl
      · rw [if_neg h0, if_pos (hany.2 h0)]
        exact ttake_rrun h D (w ++ [x])
end Go.Proofs.YtbfojhfiemcnpaaDoor.Av.Px

/- The laws of tables: the example. -/
set_option linter.unusedSimpArgs false
set_option linter.unusedVariables false
set_option maxRecDepth 100000
namespace Go.Proofs.YtbfojhfiemcnpaaDoor.Av.Px
open Go Bt
attribute [local irreducible] AGo ACalls
variable {gl : List (Nat × List D)}
def csL : List (List UInt8 × Int) := [([49], 7), ([48, 49], 8)]
def TL : Tb := addT (addT tb0 [49] 7) [48, 49] 8
theorem mkL : mk csL tb0 = some TL := by
  unfold csL
  rw [mk_cons, if_pos (by decide +kernel), mk_cons, if_pos (by decide +kernel), mk_nil]
  rfl
theorem rrun_bd (rows : List (List UInt8)) : ∀ (D w : List UInt8), (rrun rows D w).2.1 = 0 → 0 ≤ (rrun rows D w).1 ∧ (rrun rows D w).1 < rows.length
  | [], w, h => by simp [rrun] at h
  | x :: D, w, h => by
    rw [rrun] at h ⊢
    unfold rstep at h ⊢
    cases hf : fidx (w ++ [x]) rows 0 with
    | some i =>
      have := fidx_lt _ _ _ _ hf
      simp only; omega
    | none =>
      rw [hf] at h
      simp only at h ⊢
      by_cases ha : rows.any (fun r => (w ++ [x]).isPrefixOf r) = true
      · rw [if_pos ha] at h ⊢
        exact rrun_bd rows D (w ++ [x]) h
      · rw [if_neg ha] at h; simp at h
attribute [local irreducible] smap imap codesD addB addT mk ttake bitsF rowsD TL csL showN
end Go.Proofs.YtbfojhfiemcnpaaDoor.Av.Px
