/- prefix.Make: a table of codes, or none. Tables: Take, Len, Longest. The plain law of tables: what Take tells is what the document tells. The laws of tables: the example. -/
import Derived.Test.YtbfojhfiemcnpaaGreatDoorPf
import Derived.Test.YtbfojhfiemcnpaaGreatDoorPd2
set_option linter.unusedVariables false
set_option linter.unusedSimpArgs false
set_option maxRecDepth 100000
set_option maxHeartbeats 64000000
namespace Go.Proofs.YtbfojhfiemcnpaaGreatDoor.Av
namespace Px
open Go Bt
attribute [local irreducible] aa ACalls
variable {gl : List (Nat × List D)}
def mk : List (List UInt8 × Int) → Tb → Option Tb
 | [], t => some t
 | p :: r, t => if sG t p.1 p.2 = true then mk r (dV t p.1 p.2) else none
def tb0 : Tb := ⟨[], [], [], [], 0⟩
theorem BR : bw [] = [] := rfl
theorem Dj : df [] = [] := rfl
theorem rO (cs : List (List UInt8 × Int)) (i : Nat) (p : List UInt8 × Int) (h : cs[i]? = some p) : (aO cs).getD i .top = jg p := by simp [aO, List.getD, h]
theorem yh (ti : TI) (ha : ti.agg = true) (hs : ti.size = 2) (cs : List (List UInt8 × Int)) (i : Nat) (p : List UInt8 × Int) (h : cs[i]? = some p) : gZ ti ((aO cs).getD i .top).cells 0 = some (jg p) := by
 rw [rO cs i p h]
 unfold gZ jg
 rw [ha, hs]; rfl
structure EC (t : Tb) (i : Nat) : Prop where
 len : t.codes.length = i
 beg : ∀ w, 0 ≤ fP w t.beg ∧ fP w t.beg ≤ 24 * i
 lng : 0 ≤ t.lng ∧ t.lng ≤ 24
theorem Hg : EC tb0 0 := ⟨rfl, fun w => by simp [tb0, Dx], by decide⟩
theorem Cf (row : List UInt8) (h : ij row = true) : row.length ≤ 24 := by
 unfold ij at h
 simp only [Bool.and_eq_true, decide_eq_true_eq] at h
 exact h.1.2
theorem EC.add {t : Tb} {i : Nat} (h : EC t i) {row : List UInt8} {sy : Int} (hb : sG t row sy = true) : EC (dV t row sy) (i + 1) := by
 obtain ⟨_, h2, _⟩ := (rY t row sy).1 hb
 have hr := Cf row h2
 refine ⟨by simp [dV, h.len], fun w => ?_, ?_⟩
 ·have := jk row t.beg (24 * i) h.beg row.length w
  simp only [dV]; omega
 ·have := h.lng
  simp only [dV]; omega
theorem qa (p : List UInt8 × Int) (r : List (List UInt8 × Int)) (t : Tb) : mk (p :: r) t = if sG t p.1 p.2 = true then mk r (dV t p.1 p.2) else none := rfl
theorem xO (t : Tb) : mk [] t = some t := rfl
def mK (m : Nat) : Env → Bool
 | [] => true
 | (_, v) :: r => v.bnd m && mK m r
theorem fg (m : Nat) : ∀ (env : Env), mK m env = true → ∀ i, (env.get i).bnd m = true
 | [], _, i => rfl
 | (j, v) :: r, h, i => by
  simp only [mK, Bool.and_eq_true] at h
  simp only [Env.get]
  cases Nat.beq j i with
  | true => exact h.1
  | false => exact fg m r h.2 i
theorem AX {α : Type} (l : List α) (i : Nat) (x : α) (h : l[i]? = some x) : l.drop i = x :: l.drop (i + 1) := by
 have hl := av h
 rw [List.drop_eq_getElem_cons hl]
 congr 1
 simpa [hl] using h
def tz (p : List UInt8 × Int) : List AV := [S p.1, I p.2]
attribute [local irreducible] bw df aO sG dV mk
def zV (t : Tb) (c f : List AV) : List aF := [.map (bw t.sym), .map (df t.rws), .map (bw t.beg), .cells [.own 2 (aO t.codes) 6, .mp 0, .mp 1, .mp 2, I t.lng], .cells c, .cells f, .front 199 2 (aO t.codes).length]
def He : List aF := [.map (bw []), .map (df []), .map (bw []), .cells [.d .aU, .mp 0, .mp 1, .mp 2, I 0]]
theorem zh (cs : List (List UInt8 × Int)) (p0 : List UInt8 × Int) (T : Tb) (h0 : cs[0]? = some p0) (h2 : cs.length ≤ 256) (hr : ∀ p ∈ cs, p.1.length ≤ 1000000) (hT : mk cs tb0 = some T) :
  ACalls (cxg gl) 164 [.d (.sl 2 (aO cs))] [] (fun r H => r = .bG [.ptr 3 0, I 0] ∧ H = zV T (tz p0) (tz p0)) := by
 have hln := cF cs
 have h1 := av h0
 refine ACalls.enter Tryz.func164 rfl Tryz.ntmps164 (by kernel_rfl) rfl ?_; simp only [au, nm, Nat.reduceAdd]
 repeat (first | (apply aa.st; rfl) | (apply aa.q true; rfl; rfl; rfl; rfl; first | exact True.intro | omega | (simp only [tn, Int.reduceToNat]; omega)) | (apply aa.af; rfl; first | omega | rfl) | (apply aa.ae; rfl; omega) | (apply aa.ak; rfl) | (apply aa.alloc; (iterate 5 rfl); simp only [nm, nz, Nat.reduceAdd]) | (apply aa.box; (iterate 6 rfl); simp only [nm, nz, Nat.reduceAdd]) | (apply aa.store; (iterate 9 rfl); exact Nat.le_of_ble_eq_true rfl; simp only [nm, nz, Nat.reduceAdd]) | (apply aa.build; (iterate 5 rfl); simp only [nm, nz, Nat.reduceAdd, bA, cH, AV.unD]) | (apply aa.aj; rfl; rfl) | (apply aa.gF; rfl; rfl; rfl; omega) | (apply aa.makeMap; rfl; rfl; rfl; rfl; simp only [List.length_cons, List.length_nil, Nat.reduceAdd, List.cons_append, List.nil_append]))
 rw [hln]
 refine aa.weak (env' := [(22, I 0), (21, I cs.length), (20, .d (.sl 2 (aO cs))), (4, .ptr 3 0)]) ⟨rfl, rfl, rfl, rfl, trivial⟩ ?_
 refine aa.loop (fun m env H => ∃ (i : Nat) (t : Tb), m = cs.length - i ∧ i ≤ cs.length ∧ EC t i ∧ mk (cs.drop i) t = mk cs tb0 ∧ env = [(22, I (i : Int)), (21, I cs.length), (20, .d (.sl 2 (aO cs))), (4, .ptr 3 0)] ∧ ((i = 0 ∧ t = tb0 ∧ H = He) ∨ (0 < i ∧ H = zV t (tz p0) (tz p0)))) cs.length
  ⟨0, tb0, rfl, by omega, Hg, rfl, rfl, .inl ⟨rfl, rfl, by unfold He; rw [BR, Dj]⟩⟩ ?_
 rintro m env H ⟨i, t, rfl, hi, hok, hmk, rfl, hcase⟩
 rcases Nat.lt_or_ge i cs.length with hlt | hge
 ·obtain ⟨p, hp⟩ : ∃ p, cs[i]? = some p := ⟨_, List.getElem?_eq_getElem hlt⟩
  have hrl := hr p (List.mem_of_getElem? hp)
  have g1 := fun (ti : TI) (ha : ti.agg = true) (hs : ti.size = 2) => yh ti ha hs cs i p hp
  rw [AX cs i p hp, qa] at hmk
  cases hb : sG t p.1 p.2 with
  | false =>
   rw [hb] at hmk
   rw [if_neg (by decide), hT] at hmk
   cases hmk
  | true =>
   rw [if_pos hb] at hmk
   have hok' := hok.add hb
   have hN : ∀ w, 0 ≤ fP w t.beg ∧ fP w t.beg ≤ 1000000 := fun w => by have := hok.beg w; omega
   have hL := hok.lng
   have hC := hok.len
   rcases hcase with ⟨hi0, rfl, rfl⟩ | ⟨hi0, rfl⟩
   ·subst hi0
    have e0 : p = p0 := by rw [h0] at hp; exact (Option.some.inj hp).symm
    subst e0
    have ha := Bi (gl := gl) tb0 p.1 p.2 hrl hb hN (by omega) rfl
    unfold He
    unfold Hf ER at ha
    repeat' (first | (apply aa.st; rfl) | (apply aa.q true; rfl; rfl; rfl; rfl; first | exact True.intro | omega | (simp only [tn, Int.reduceToNat]; omega) | (rw [hln]; omega)) | (apply aa.ah [3,0,1,2] ( ha); (iterate 6 rfl); decide; rfl; rfl; simp only [ny, nh, Nat.reduceAdd, Nat.reduceSub]) | (apply aa.af; rfl; first | omega | rfl) | (apply aa.ae; rfl; omega) | (apply aa.ak; rfl) | (apply aa.alloc; (iterate 5 rfl); simp only [nm, nz, Nat.reduceAdd]) | (apply aa.box; (iterate 6 rfl); simp only [nm, nz, Nat.reduceAdd]) | (apply aa.store; (iterate 9 rfl); exact Nat.le_of_ble_eq_true rfl; simp only [nm, nz, Nat.reduceAdd]) | (apply aa.build; (iterate 5 rfl); simp only [nm, nz, Nat.reduceAdd, bA, cH, AV.unD]) | (apply aa.aj; rfl; rfl) | (apply aa.gF; rfl; rfl; rfl; omega) | (apply aa.kH; (iterate 6 rfl); exact (g1 _ rfl rfl)) | (apply aa.makeMap; rfl; rfl; rfl; rfl; simp only [List.length_cons, List.length_nil, Nat.reduceAdd, List.cons_append, List.nil_append]) | intro _)
    exact aa.round [(22, I ((0 + 1 : Nat) : Int)), (21, I cs.length), (20, .d (.sl 2 (aO cs))), (4, .ptr 3 0)] (cs.length - 1) (by omega) ⟨rfl, rfl, rfl, rfl, trivial⟩ ⟨1, _, rfl, hlt, hok', hmk, rfl, .inr ⟨by omega, rfl⟩⟩
   ·have ha := Bh (gl := gl) t p.1 p.2 hrl hb hN (by omega) (by omega)
    unfold zV
    unfold ES at ha
    repeat' (first | (apply aa.st; rfl) | (apply aa.q true; rfl; rfl; rfl; rfl; first | exact True.intro | omega | (simp only [tn, Int.reduceToNat]; omega) | (rw [hln]; omega)) | (apply aa.ah [3,0,1,2,6] ( ha); (iterate 6 rfl); decide; rfl; rfl; simp only [ny, nh, Nat.reduceAdd, Nat.reduceSub]) | (apply aa.af; rfl; first | omega | rfl) | (apply aa.ae; rfl; omega) | (apply aa.ak; rfl) | (apply aa.alloc; (iterate 5 rfl); simp only [nm, nz, Nat.reduceAdd]) | (apply aa.box; (iterate 6 rfl); simp only [nm, nz, Nat.reduceAdd]) | (apply aa.store; (iterate 9 rfl); exact Nat.le_of_ble_eq_true rfl; simp only [nm, nz, Nat.reduceAdd]) | (apply aa.build; (iterate 5 rfl); simp only [nm, nz, Nat.reduceAdd, bA, cH, AV.unD]) | (apply aa.aj; rfl; rfl) | (apply aa.gF; rfl; rfl; rfl; omega) | (apply aa.kH; (iterate 6 rfl); exact (g1 _ rfl rfl)) | (apply aa.makeMap; rfl; rfl; rfl; rfl; simp only [List.length_cons, List.length_nil, Nat.reduceAdd, List.cons_append, List.nil_append]) | intro _)
    refine aa.drop 7 (env' := [(22, I ((i + 1 : Nat) : Int)), (21, I cs.length), (20, .d (.sl 2 (aO cs))), (4, .ptr 3 0)]) (Nat.zero_le _) (by simp) (fun o ho => dA (m := 7) rfl o ho) ⟨rfl, rfl, rfl, rfl, trivial⟩ (fg 7 _ rfl) ?_
    exact aa.round [(22, I ((i + 1 : Nat) : Int)), (21, I cs.length), (20, .d (.sl 2 (aO cs))), (4, .ptr 3 0)] (cs.length - (i + 1)) (by omega) ⟨rfl, rfl, rfl, rfl, trivial⟩ ⟨i + 1, _, rfl, hlt, hok', hmk, rfl, .inr ⟨by omega, rfl⟩⟩
 ·obtain rfl : i = cs.length := by omega
  rw [List.drop_length, xO] at hmk
  rw [hT] at hmk
  obtain rfl := Option.some.inj hmk
  rcases hcase with ⟨hi0, _, _⟩ | ⟨hi0, rfl⟩
  ·omega
  ·repeat (first | (apply aa.st; rfl) | (apply aa.q true; rfl; rfl; rfl; rfl; first | exact True.intro | omega | (simp only [tn, Int.reduceToNat]; omega)) | (apply aa.af; rfl; first | omega | rfl) | (apply aa.ae; rfl; omega) | (apply aa.ak; rfl) | (apply aa.alloc; (iterate 5 rfl); simp only [nm, nz, Nat.reduceAdd]) | (apply aa.box; (iterate 6 rfl); simp only [nm, nz, Nat.reduceAdd]) | (apply aa.store; (iterate 9 rfl); exact Nat.le_of_ble_eq_true rfl; simp only [nm, nz, Nat.reduceAdd]) | (apply aa.build; (iterate 5 rfl); simp only [nm, nz, Nat.reduceAdd, bA, cH, AV.unD]) | (apply aa.aj; rfl; rfl) | (apply aa.gF; rfl; rfl; rfl; omega))
   refine aa.out rfl ⟨_, rfl, ?_⟩
   unfold zV
   repeat (first | (apply aa.st; rfl) | (apply aa.q true; rfl; rfl; rfl; rfl; first | exact True.intro | omega | (simp only [tn, Int.reduceToNat]; omega)) | (apply aa.af; rfl; first | omega | rfl) | (apply aa.ae; rfl; omega) | (apply aa.ak; rfl) | (apply aa.alloc; (iterate 5 rfl); simp only [nm, nz, Nat.reduceAdd]) | (apply aa.box; (iterate 6 rfl); simp only [nm, nz, Nat.reduceAdd]) | (apply aa.store; (iterate 9 rfl); exact Nat.le_of_ble_eq_true rfl; simp only [nm, nz, Nat.reduceAdd]) | (apply aa.build; (iterate 5 rfl); simp only [nm, nz, Nat.reduceAdd, bA, cH, AV.unD]) | (apply aa.aj; rfl; rfl) | (apply aa.gF; rfl; rfl; rfl; omega))
   (apply aa.vI 7; rfl; rfl; rfl; rfl; rfl)
   exact ⟨rfl, rfl⟩
end Px
namespace Px
open Go Bt
attribute [local irreducible] aa ACalls
variable {gl : List (Nat × List D)}
theorem ib (s : List UInt8) (p : Nat) (hs : s.length < 1000000000000000) (h : p < 8 * s.length) : ACalls (cxg gl) 99 [.ptr 0 0, I 1] [Rd s p] (fun r H => r = .bG [I (dG s p), I 0] ∧ H = [Rd s ((p + 1 : Nat) : Int)]) := by
 have := lJ (gl := gl) s p (by omega) hs (by omega)
 rwa [show pk1 s p = (dG s p, 0) by unfold pk1; rw [if_neg (by omega)], show Bt.tk1 s p = ((p + 1 : Nat) : Int) by unfold Bt.tk1; rw [if_neg (by omega)]; omega] at this
theorem jO (s : List UInt8) (p : Nat) (hs : s.length < 1000000000000000) (h : p = 8 * s.length) : ACalls (cxg gl) 99 [.ptr 0 0, I 1] [Rd s p] (fun r H => r = .bG [I 0, I 2] ∧ H = [Rd s p]) := by
 have := lJ (gl := gl) s p (by omega) hs (by omega)
 rwa [show pk1 s p = (0, 2) by unfold pk1; rw [if_pos (by omega)], show Bt.tk1 s p = p by unfold Bt.tk1; rw [if_pos (by omega)]] at this
def jq (t : Tb) (i : Int) : Int := (t.codes.getD i.toNat ([], 0)).2
def kM (t : Tb) : List UInt8 → List UInt8 → Int × Int × Nat
 | [], _ => (0, 2, 0)
 | x :: r, w => match bQ (w ++ [x]) t.sym 0 with
  | some (_, i) => (jq t i, 0, w.length + 1)
  | none => if fP (w ++ [x]) t.beg = 0 then (0, 3, 0) else kM t r (w ++ [x])
def um (p : Nat) (x : Int × Int × Nat) : Nat := if x.2.1 = 0 then p + x.2.2 else p
theorem AZ (b : Int) (h : b = 0 ∨ b = 1) : (([48, 49] : List UInt8).take (b + 1).toNat).drop b.toNat = [bi b] := by rcases h with rfl | rfl <;> rfl
theorem Eb (t : Tb) (i : Int) (h : 0 ≤ i ∧ i < (t.codes.length : Int)) : (aO t.codes).getD i.toNat .top = jg ((t.codes.getD i.toNat ([], 0)).1, jq t i) := by
 have hl : i.toNat < t.codes.length := by omega
 rw [rO t.codes i.toNat t.codes[i.toNat] (by simp [hl])]
 unfold jq
 simp [List.getD, hl]
attribute [local irreducible] bw df aO dG ai jq bi
theorem yD (t : Tb) (s : List UInt8) (p : Nat) (hs : s.length ≤ 1000000) (hp : p ≤ 8 * s.length) (hsym : ∀ w j i, bQ w t.sym 0 = some (j, i) → 0 ≤ i ∧ i < (t.codes.length : Int)) :
  ACalls (cxg gl) 163 [.ptr 3 0, .ptr 4 0] [.map (bw t.sym), .map (df t.rws), .map (bw t.beg), .cells [.own 2 (aO t.codes) 5, .mp 0, .mp 1, .mp 2, I t.lng], Rd s p, .front 199 2 (aO t.codes).length]
   (fun r H => r = .bG [I (kM t ((ai s p).map bi) []).1, I (kM t ((ai s p).map bi) []).2.1] ∧
    H = [.map (bw t.sym), .map (df t.rws), .map (bw t.beg), .cells [.own 2 (aO t.codes) 5, .mp 0, .mp 1, .mp 2, I t.lng], Rd s (um p (kM t ((ai s p).map bi) [])), .front 199 2 (aO t.codes).length]) := by
 have hcl := cF t.codes
 refine ACalls.enter Tryz.func163 rfl Tryz.ntmps163 (by kernel_rfl) rfl ?_; simp only [au, nm, Nat.reduceAdd]
 repeat (first | (apply aa.st; rfl) | (apply aa.q true; rfl; rfl; rfl; rfl; first | exact True.intro | omega | (simp only [tn, Int.reduceToNat]; omega)) | (apply aa.ah [4] ( nV s p); (iterate 6 rfl); decide; rfl; rfl; simp only [ny, nh, Nat.reduceAdd, Nat.reduceSub]) | (apply aa.af; rfl; first | omega | rfl) | (apply aa.ae; rfl; omega) | (apply aa.aB; rfl) | (apply aa.ak; rfl) | (apply aa.aj; rfl; rfl))
 refine aa.weak (env' := [(8, S []), (7, I p), (6, I 0), (1, .ptr 4 0), (0, .ptr 3 0)]) ⟨rfl, rfl, rfl, rfl, rfl, trivial⟩ ?_
 refine aa.loop (fun m env H => ∃ (k : Nat) (w : List UInt8), m = 8 * s.length - (p + k) ∧ p + k ≤ 8 * s.length ∧ w.length = k ∧ kM t ((ai s (p + k)).map bi) w = kM t ((ai s p).map bi) [] ∧
  env = [(8, S w), (7, I p), (6, I 0), (1, .ptr 4 0), (0, .ptr 3 0)] ∧ H = [.map (bw t.sym), .map (df t.rws), .map (bw t.beg), .cells [.own 2 (aO t.codes) 5, .mp 0, .mp 1, .mp 2, I t.lng], Rd s ((p + k : Nat) : Int), .front 199 2 (aO t.codes).length]) (8 * s.length - p)
  ⟨0, [], by simp, by omega, rfl, rfl, rfl, rfl⟩ ?_
 rintro m env H ⟨k, w, rfl, hk, hw, hm, rfl, rfl⟩
 have sk := fun q : Nat => dO (gl := gl) s q p (by omega) ⟨by omega, by omega⟩
 rcases Nat.lt_or_ge (p + k) (8 * s.length) with hlt | hge
 ·rw [gm s _ hlt, List.map_cons, kM] at hm
  have t1 := ib (gl := gl) s (p + k) (by omega) hlt
  have hb := kL s ((p + k : Nat) : Int)
  have he := AZ (dG s ((p + k : Nat) : Int)) (by omega)
  generalize dG s ((p + k : Nat) : Int) = b at *
  have f3 := cf (w ++ (([48, 49] : List UInt8).take (b + 1).toNat).drop b.toNat) t.sym 0
  have f4 := cf (w ++ (([48, 49] : List UInt8).take (b + 1).toNat).drop b.toNat) t.beg 0
  rw [he] at f3 f4
  have hln : (w ++ (([48, 49] : List UInt8).take (b + 1).toNat).drop b.toNat).length = k + 1 := by rw [he, List.length_append, hw]; rfl
  cases h5 : bQ (w ++ [bi b]) t.sym 0 with
  | some jv =>
   obtain ⟨j, i⟩ := jv
   rw [h5] at f3 hm
   have hi := hsym _ _ _ h5
   have hcg := Eb t i hi
   rw [← he] at f3
   simp only at hm
   rw [← hm]
   repeat' (first | (apply aa.st; rfl) | (apply aa.q true; rfl; rfl; rfl; rfl; first | exact True.intro | omega | (simp only [tn, Int.reduceToNat]; omega) | (simp only [List.length_drop, List.length_take, List.length_cons, List.length_nil, hw]; omega) | (rw [hcl]; omega)) | (apply aa.ah [4] ( t1); (iterate 6 rfl); decide; rfl; rfl; simp only [ny, nh, Nat.reduceAdd, Nat.reduceSub]) | (apply aa.af; rfl; first | omega | rfl) | (apply aa.ae; rfl; omega) | (apply aa.aB; rfl) | (apply aa.ak; rfl) | (apply aa.aj; rfl; rfl) | (apply aa.lookup; (iterate 13 rfl); kernel_rfl; exact f3; rfl) | (rw [hcg]) | intro _ | (apply aa.bf; rfl; rfl; rfl; rfl))
   all_goals first | exact ⟨rfl, by rw [hw]; rfl⟩
  | none =>
   rw [h5] at f3 hm
   rw [← he] at f3
   simp only at hm
   cases h6 : bQ (w ++ [bi b]) t.beg 0 with
   | none =>
    rw [h6] at f4
    rw [← he] at f4
    rw [j3 h6, if_pos rfl] at hm
    rw [← hm]
    repeat' (first | (apply aa.st; rfl) | (apply aa.q true; rfl; rfl; rfl; rfl; first | exact True.intro | omega | (simp only [tn, Int.reduceToNat]; omega) | (simp only [List.length_drop, List.length_take, List.length_cons, List.length_nil, hw]; omega)) | (apply aa.ah [4] ( t1); (iterate 6 rfl); decide; rfl; rfl; simp only [ny, nh, Nat.reduceAdd, Nat.reduceSub]) | (apply aa.ah [4] ( sk (p + k + 1)); (iterate 6 rfl); decide; rfl; rfl; simp only [ny, nh, Nat.reduceAdd, Nat.reduceSub]) | (apply aa.af; rfl; first | omega | rfl) | (apply aa.ae; rfl; omega) | (apply aa.aB; rfl) | (apply aa.ak; rfl) | (apply aa.aj; rfl; rfl) | (apply aa.lookup; (iterate 13 rfl); kernel_rfl; exact f3; rfl) | (apply aa.lookup; (iterate 13 rfl); kernel_rfl; exact f4; rfl) | intro _ | (apply aa.bf; rfl; rfl; rfl; rfl))
    all_goals first | exact ⟨rfl, rfl⟩
   | some jv =>
    obtain ⟨j, n⟩ := jv
    rw [h6] at f4
    rw [← he] at f4
    rw [dS h6] at hm
    by_cases hn : n = 0
    ·subst hn
     rw [if_pos rfl] at hm
     rw [← hm]
     repeat' (first | (apply aa.st; rfl) | (apply aa.q true; rfl; rfl; rfl; rfl; first | exact True.intro | omega | (simp only [tn, Int.reduceToNat]; omega) | (simp only [List.length_drop, List.length_take, List.length_cons, List.length_nil, hw]; omega)) | (apply aa.ah [4] ( t1); (iterate 6 rfl); decide; rfl; rfl; simp only [ny, nh, Nat.reduceAdd, Nat.reduceSub]) | (apply aa.ah [4] ( sk (p + k + 1)); (iterate 6 rfl); decide; rfl; rfl; simp only [ny, nh, Nat.reduceAdd, Nat.reduceSub]) | (apply aa.af; rfl; first | omega | rfl) | (apply aa.ae; rfl; omega) | (apply aa.aB; rfl) | (apply aa.ak; rfl) | (apply aa.aj; rfl; rfl) | (apply aa.lookup; (iterate 13 rfl); kernel_rfl; exact f3; rfl) | (apply aa.lookup; (iterate 13 rfl); kernel_rfl; exact f4; rfl) | intro _ | (apply aa.bf; rfl; rfl; rfl; rfl))
     all_goals first | exact ⟨rfl, rfl⟩
    ·rw [if_neg hn] at hm
     repeat' (first | (apply aa.st; rfl) | (apply aa.q true; rfl; rfl; rfl; rfl; first | exact True.intro | omega | (simp only [tn, Int.reduceToNat]; omega) | (simp only [List.length_drop, List.length_take, List.length_cons, List.length_nil, hw]; omega)) | (apply aa.ah [4] ( t1); (iterate 6 rfl); decide; rfl; rfl; simp only [ny, nh, Nat.reduceAdd, Nat.reduceSub]) | (apply aa.af; rfl; first | omega | rfl) | (apply aa.ae; rfl; omega) | (apply aa.aB; rfl) | (apply aa.ak; rfl) | (apply aa.aj; rfl; rfl) | (apply aa.lookup; (iterate 13 rfl); kernel_rfl; exact f3; rfl) | (apply aa.lookup; (iterate 13 rfl); kernel_rfl; exact f4; rfl) | intro _ | (apply aa.bf; rfl; rfl; rfl; rfl))
     exact aa.round [(8, S (w ++ [bi b])), (7, I p), (6, I 0), (1, .ptr 4 0), (0, .ptr 3 0)] (8 * s.length - (p + (k + 1))) (by omega) ⟨congrArg S (by rw [← he]), rfl, rfl, rfl, rfl, trivial⟩ ⟨k + 1, w ++ [bi b], rfl, by omega, by rw [List.length_append, hw]; rfl, hm, rfl, rfl⟩
 ·have hpk : p + k = 8 * s.length := by omega
  rw [iT s _ hge, List.map_nil, kM] at hm
  rw [← hm]
  have t1 := jO (gl := gl) s (p + k) (by omega) hpk
  repeat' (first | (apply aa.st; rfl) | (apply aa.q true; rfl; rfl; rfl; rfl; first | exact True.intro | omega | (simp only [tn, Int.reduceToNat]; omega)) | (apply aa.ah [4] ( t1); (iterate 6 rfl); decide; rfl; rfl; simp only [ny, nh, Nat.reduceAdd, Nat.reduceSub]) | (apply aa.ah [4] ( sk (p + k)); (iterate 6 rfl); decide; rfl; rfl; simp only [ny, nh, Nat.reduceAdd, Nat.reduceSub]) | (apply aa.af; rfl; first | omega | rfl) | (apply aa.ae; rfl; omega) | (apply aa.aB; rfl) | (apply aa.ak; rfl) | (apply aa.aj; rfl; rfl) | intro _ | (apply aa.bf; rfl; rfl; rfl; rfl))
  all_goals first | exact ⟨rfl, rfl⟩
end Px
namespace Px
open Go Bt
theorem oO (row w : List UInt8) (hw : w ≠ []) (l : List (List UInt8 × Int)) : ∀ k, k ≤ row.length → fP w (bH row k l) = fP w l + (if w.length ≤ k ∧ w.isPrefixOf row = true then 1 else 0)
 | 0, _ => by
  have : ¬ w.length ≤ 0 := fun h => hw (List.eq_nil_of_length_eq_zero (by omega))
  rw [if_neg (fun h => this h.1)]; simp [bH]
 | k + 1, hk => by
  have hk' : k ≤ row.length := by omega
  rw [bH, rF]
  have hne : row.take (k + 1) ≠ [] := fun h => by
   have := congrArg List.length h
   rw [List.length_take, List.length_nil] at this; omega
  have hlen : (row.take (k + 1)).length = k + 1 := by rw [List.length_take]; omega
  by_cases e : w = row.take (k + 1)
  ·rw [if_pos e]
   have h1 := oO row (row.take (k + 1)) hne l k hk'
   rw [if_neg (by rw [hlen]; omega)] at h1
   rw [h1, e, hlen, if_pos ⟨Nat.le_refl _, List.isPrefixOf_iff_prefix.2 (List.take_prefix _ _)⟩]; omega
  ·rw [if_neg e, oO row w hw l k hk']
   congr 1
   by_cases hp : w.isPrefixOf row = true
   ·have hpe := List.prefix_iff_eq_take.1 (List.isPrefixOf_iff_prefix.1 hp)
    have hne' : w.length ≠ k + 1 := fun h => e (by rw [← h]; exact hpe)
    by_cases hl : w.length ≤ k
    ·rw [if_pos ⟨hl, hp⟩, if_pos ⟨by omega, hp⟩]
    ·rw [if_neg (fun h => hl h.1), if_neg (fun h => by have := h.1; omega)]
   ·rw [if_neg (fun h => hp h.2), if_neg (fun h => hp h.2)]
def uu {α : Type} (l : List α) : List (α × Int) := List.zipWith (fun (i : Nat) (x : α) => (x, (i : Int))) (List.range l.length) l
theorem oz {α : Type} (l : List α) (x : α) : uu (l ++ [x]) = uu l ++ [(x, (l.length : Int))] := by
 unfold uu
 rw [List.length_append, List.length_singleton, List.range_succ, List.zipWith_append (by simp)]
 rfl
theorem nH {α : Type} [DecidableEq α] (w : α) : ∀ (l r : List (α × Int)) (i : Nat), bQ w (l ++ r) i = match bQ w l i with | some x => some x | none => bQ w r (i + l.length)
 | [], r, i => by simp [bQ]
 | (k, v) :: l, r, i => by
  simp only [List.cons_append, bQ]
  by_cases h : w = k
  ·simp [h]
  ·rw [if_neg h, if_neg h, nH w l r (i + 1), List.length_cons]
   rw [show i + 1 + l.length = i + (l.length + 1) by omega]
theorem pG (w : List UInt8) : ∀ (l r : List (List UInt8)) (i : Nat), iJ w (l ++ r) i = match iJ w l i with | some x => some x | none => iJ w r (i + l.length)
 | [], r, i => by simp [iJ]
 | x :: l, r, i => by
  simp only [List.cons_append, iJ]
  by_cases h : x = w
  ·simp [h]
  ·rw [if_neg h, if_neg h, pG w l r (i + 1), List.length_cons]
   rw [show i + 1 + l.length = i + (l.length + 1) by omega]
theorem rG (w : List UInt8) (l : List (List UInt8)) : bQ w (uu l) 0 = (iJ w l 0).map fun (i : Nat) => (i, (i : Int)) := by
 refine jQ (P := fun l => bQ w (uu l) 0 = (iJ w l 0).map fun (i : Nat) => (i, (i : Int))) rfl (fun l x ih => ?_) l
 rw [oz, nH, pG, ih]
 have hl : (uu l).length = l.length := by simp [uu]
 cases iJ w l 0 with
 | some i => rfl
 | none =>
  simp only [Option.map_none, bQ, iJ, Nat.zero_add, hl]
  by_cases h : w = x
  ·rw [if_pos h, if_pos h.symm]; rfl
  ·rw [if_neg h, if_neg (fun e => h e.symm)]; rfl
structure pV (t : Tb) (cs : List (List UInt8 × Int)) : Prop where
 codes : t.codes = cs
 sym : t.sym = uu (cs.map (·.1))
 rws : t.rws = uu (cs.map (·.2))
 beg : ∀ w, w ≠ [] → fP w t.beg = ((cs.filter fun p => w.isPrefixOf p.1).length : Int)
theorem Hh : pV tb0 [] := ⟨rfl, rfl, rfl, fun w _ => rfl⟩
theorem pV.add {t : Tb} {cs : List (List UInt8 × Int)} (h : pV t cs) (row : List UInt8) (sy : Int) : pV (dV t row sy) (cs ++ [(row, sy)]) := by
 have hl : t.codes.length = cs.length := by rw [h.codes]
 refine ⟨by simp [dV, h.codes], ?_, ?_, fun w hw => ?_⟩
 ·simp only [dV, List.map_append, List.map_singleton]
  rw [oz, h.sym, hl, List.length_map]
 ·simp only [dV, List.map_append, List.map_singleton]
  rw [oz, h.rws, hl, List.length_map]
 ·simp only [dV]
  rw [oO row w hw t.beg row.length (Nat.le_refl _), h.beg w hw, List.filter_append, List.length_append]
  by_cases hp : w.isPrefixOf row = true
  ·rw [if_pos ⟨(List.isPrefixOf_iff_prefix.1 hp).length_le, hp⟩]; simp [hp]
  ·rw [if_neg (fun h => hp h.2)]; simp [hp]
theorem GH : ∀ (rest : List (List UInt8 × Int)) (t T : Tb) (cs : List (List UInt8 × Int)), pV t cs → mk rest t = some T → pV T (cs ++ rest)
 | [], t, T, cs, h, hm => by rw [xO] at hm; cases hm; simpa using h
 | p :: r, t, T, cs, h, hm => by
  rw [qa] at hm
  split at hm
  ·have := GH r _ T _ (h.add p.1 p.2) hm
   simpa using this
  ·cases hm
theorem CH {cs : List (List UInt8 × Int)} {T : Tb} (h : mk cs tb0 = some T) : pV T cs := by simpa using GH cs tb0 T [] Hh h
theorem uJ (w : List UInt8) : ∀ (l : List (List UInt8)) (i j : Nat), iJ w l i = some j → i ≤ j ∧ j < i + l.length
 | [], i, j, h => by simp [iJ] at h
 | r :: l, i, j, h => by
  simp only [iJ] at h
  split at h
  ·simp only [Option.some.injEq] at h; subst h; simp
  ·have := uJ w l _ _ h; simp only [List.length_cons]; omega
theorem pV.Gy {t : Tb} {cs : List (List UInt8 × Int)} (h : pV t cs) : ∀ w j i, bQ w t.sym 0 = some (j, i) → 0 ≤ i ∧ i < (t.codes.length : Int) := by
 intro w j i hf
 rw [h.sym, rG] at hf
 cases hx : iJ w (cs.map (·.1)) 0 with
 | none => simp [hx] at hf
 | some k =>
  simp [hx] at hf
  obtain ⟨rfl, rfl⟩ := hf
  have := uJ _ _ _ _ hx
  rw [h.codes]
  simp at this; omega
theorem mE {t : Tb} {cs : List (List UInt8 × Int)} (h : pV t cs) : ∀ (D w : List UInt8), kM t D w = (if (bR (cs.map (·.1)) D w).2.1 = 0 then jq t (bR (cs.map (·.1)) D w).1 else 0, (bR (cs.map (·.1)) D w).2)
 | [], w => rfl
 | x :: D, w => by
  rw [kM, bR, gY, h.sym, rG]
  have hne : w ++ [x] ≠ [] := by simp
  have hb := h.beg (w ++ [x]) hne
  cases hf : iJ (w ++ [x]) (cs.map (·.1)) 0 with
  | some i => rfl
  | none =>
   simp only [Option.map_none]
   have hany : (cs.map (·.1)).any (fun r => (w ++ [x]).isPrefixOf r) = true ↔ ¬ fP (w ++ [x]) t.beg = 0 := by
    rw [hb, List.any_map, List.any_eq_true]
    constructor
    ·rintro ⟨p, hp, hpp⟩ h0
     have : (cs.filter fun p => (w ++ [x]).isPrefixOf p.1) = [] := List.eq_nil_of_length_eq_zero (by omega)
     have hm : p ∈ cs.filter fun p => (w ++ [x]).isPrefixOf p.1 := List.mem_filter.2 ⟨hp, hpp⟩
     rw [this] at hm; cases hm
    ·intro h0
     cases hl : cs.filter fun p => (w ++ [x]).isPrefixOf p.1 with
     | nil => rw [hl] at h0; exact (h0 rfl).elim
     | cons p r =>
      have hm : p ∈ cs.filter fun p => (w ++ [x]).isPrefixOf p.1 := by rw [hl]; simp
      obtain ⟨h1, h2⟩ := List.mem_filter.1 hm
      exact ⟨p, h1, h2⟩
   by_cases h0 : fP (w ++ [x]) t.beg = 0
   ·rw [if_pos h0, if_neg (fun e => hany.1 e h0)]; rfl
   ·rw [if_neg h0, if_pos (hany.2 h0)]
    exact mE h D (w ++ [x])
end Px
namespace Px
open Go Bt
attribute [local irreducible] aa ACalls
variable {gl : List (Nat × List D)}
def csL : List (List UInt8 × Int) := [([49], 7), ([48, 49], 8)]
def TL : Tb := dV (dV tb0 [49] 7) [48, 49] 8
theorem mkL : mk csL tb0 = some TL := by
 unfold csL
 rw [qa, if_pos (by decide +kernel), qa, if_pos (by decide +kernel), xO]
 rfl
theorem jw (rows : List (List UInt8)) : ∀ (D w : List UInt8), (bR rows D w).2.1 = 0 → 0 ≤ (bR rows D w).1 ∧ (bR rows D w).1 < rows.length
 | [], w, h => by simp [bR] at h
 | x :: D, w, h => by
  rw [bR] at h ⊢
  unfold gY at h ⊢
  cases hf : iJ (w ++ [x]) rows 0 with
  | some i =>
   have := uJ _ _ _ _ hf
   simp only; omega
  | none =>
   rw [hf] at h
   simp only at h ⊢
   by_cases ha : rows.any (fun r => (w ++ [x]).isPrefixOf r) = true
   ·rw [if_pos ha] at h ⊢
    exact jw rows D (w ++ [x]) h
   ·rw [if_neg ha] at h; simp at h
attribute [local irreducible] bw df aO sG dV mk kM ai gM TL csL
end Px
end Go.Proofs.YtbfojhfiemcnpaaGreatDoor.Av
