/- prefix.Make: a table of codes, or none. Tables: Take, Len, Longest. The plain law of tables: what Take tells is what the document tells. The laws of tables: the example. -/
import Derived.Test.YtbfojhfiemcnpaaGreatDoorPf
set_option linter.unusedVariables false
set_option linter.unusedSimpArgs false
set_option maxRecDepth 100000
set_option maxHeartbeats 64000000
namespace Go.Proofs.YtbfojhfiemcnpaaGreatDoor.Av
namespace Px
open Go Bt
attribute [local irreducible] aa ACalls
variable {gl : List (Nat × List D)}
def mk : List (List UInt8 × Int) → Tb → Option Tb
 | [], t => some t
 | p :: r, t => if uW t p.1 p.2 = true then mk r (gh t p.1 p.2) else none
def tb0 : Tb := ⟨[], [], [], [], 0⟩
theorem EA : bQ [] = [] := rfl
theorem FY : d9 [] = [] := rfl
theorem uD (cs : List (List UInt8 × Int)) (i : Nat) (p : List UInt8 × Int) (h : cs[i]? = some p) : (ba cs).getD i .top = kO p := by simp [ba, List.getD, h]
theorem AK (ti : TI) (ha : ti.agg = true) (hs : ti.size = 2) (cs : List (List UInt8 × Int)) (i : Nat) (p : List UInt8 × Int) (h : cs[i]? = some p) : jq ti ((ba cs).getD i .top).cells 0 = some (kO p) := by
 rw [uD cs i p h]
 unfold jq kO
 rw [ha, hs]; rfl
structure Hn (t : Tb) (i : Nat) : Prop where
 len : t.codes.length = i
 beg : ∀ w, 0 ≤ iJ w t.beg ∧ iJ w t.beg ≤ 24 * i
 lng : 0 ≤ t.lng ∧ t.lng ≤ 24
theorem JX : Hn tb0 0 := ⟨rfl, fun w => by simp [tb0, Gb], by decide⟩
theorem EQ (row : List UInt8) (h : jy row = true) : row.length ≤ 24 := by
 unfold jy at h
 simp only [Bool.and_eq_true, decide_eq_true_eq] at h
 exact h.1.2
theorem Hn.add {t : Tb} {i : Nat} (h : Hn t i) {row : List UInt8} {sy : Int} (hb : uW t row sy = true) : Hn (gh t row sy) (i + 1) := by
 obtain ⟨_, h2, _⟩ := (uO t row sy).1 hb
 have hr := EQ row h2
 refine ⟨by simp [gh, h.len], fun w => ?_, ?_⟩
 ·have := kR row t.beg (24 * i) h.beg row.length w
  simp only [gh]; omega
 ·have := h.lng
  simp only [gh]; omega
theorem sI (p : List UInt8 × Int) (r : List (List UInt8 × Int)) (t : Tb) : mk (p :: r) t = if uW t p.1 p.2 = true then mk r (gh t p.1 p.2) else none := rfl
theorem Ah (t : Tb) : mk [] t = some t := rfl
def o9 (m : Nat) : Env → Bool
 | [] => true
 | (_, v) :: r => v.bnd m && o9 m r
theorem ib (m : Nat) : ∀ (env : Env), o9 m env = true → ∀ i, (env.get i).bnd m = true
 | [], _, i => rfl
 | (j, v) :: r, h, i => by
  simp only [o9, Bool.and_eq_true] at h
  simp only [Env.get]
  cases Nat.beq j i with
  | true => exact h.1
  | false => exact ib m r h.2 i
theorem DG {α : Type} (l : List α) (i : Nat) (x : α) (h : l[i]? = some x) : l.drop i = x :: l.drop (i + 1) := by
 have hl := aF h
 rw [List.drop_eq_getElem_cons hl]
 congr 1
 simpa [hl] using h
def vL (p : List UInt8 × Int) : List AV := [S p.1, I p.2]
attribute [local irreducible] bQ d9 ba uW gh mk
def CK (t : Tb) (c f : List AV) : List aH := [.map (bQ t.sym), .map (d9 t.rws), .map (bQ t.beg), .cells [.own 2 (ba t.codes) 6, .mp 0, .mp 1, .mp 2, I t.lng], .cells c, .cells f, .front 199 2 (ba t.codes).length]
def JV : List aH := [.map (bQ []), .map (d9 []), .map (bQ []), .cells [.d .bf, .mp 0, .mp 1, .mp 2, I 0]]
theorem BL (cs : List (List UInt8 × Int)) (p0 : List UInt8 × Int) (T : Tb) (h0 : cs[0]? = some p0) (h2 : cs.length ≤ 256) (hr : ∀ p ∈ cs, p.1.length ≤ 1000000) (hT : mk cs tb0 = some T) :
  ACalls (cxg gl) 164 [.d (.sl 2 (ba cs))] [] (fun r H => r = .bW [.ptr 3 0, I 0] ∧ H = CK T (vL p0) (vL p0)) := by
 have hln := dG cs
 have h1 := aF h0
 refine ACalls.enter Tryz.func164 rfl Tryz.ntmps164 (by kernel_rfl) rfl ?_; simp only [aB, nm, Nat.reduceAdd]
 repeat (first | refine aa.aD ?_ | refine aa.aY true ?_ | refine aa.ah ?_ | refine aa.af ?_ | refine aa.ai ?_ | (refine aa.aG ?_; simp only [nm, nz, Nat.reduceAdd]) | (refine aa.aP ?_; simp only [nm, nz, Nat.reduceAdd]) | (refine aa.az ?_; simp only [nm, nz, Nat.reduceAdd]) | (refine aa.bz ?_; simp only [nm, nz, Nat.reduceAdd, bS, dF, AV.unD]) | refine aa.aj ?_ | refine aa.bh ?_ | (refine aa.qW ?_; simp only [List.length_cons, List.length_nil, Nat.reduceAdd, List.cons_append, List.nil_append]))
 rw [hln]
 refine aa.weak (env' := [(22, I 0), (21, I cs.length), (20, .d (.sl 2 (ba cs))), (4, .ptr 3 0)]) ⟨rfl, rfl, rfl, rfl, trivial⟩ ?_
 refine aa.loop (fun m env H => ∃ (i : Nat) (t : Tb), m = cs.length - i ∧ i ≤ cs.length ∧ Hn t i ∧ mk (cs.drop i) t = mk cs tb0 ∧ env = [(22, I (i : Int)), (21, I cs.length), (20, .d (.sl 2 (ba cs))), (4, .ptr 3 0)] ∧ ((i = 0 ∧ t = tb0 ∧ H = JV) ∨ (0 < i ∧ H = CK t (vL p0) (vL p0)))) cs.length
  ⟨0, tb0, rfl, by omega, JX, rfl, rfl, .inl ⟨rfl, rfl, by unfold JV; rw [EA, FY]⟩⟩ ?_
 rintro m env H ⟨i, t, rfl, hi, hok, hmk, rfl, hcase⟩
 rcases Nat.lt_or_ge i cs.length with hlt | hge
 ·obtain ⟨p, hp⟩ : ∃ p, cs[i]? = some p := ⟨_, List.getElem?_eq_getElem hlt⟩
  have hrl := hr p (List.mem_of_getElem? hp)
  have g1 := fun (ti : TI) (ha : ti.agg = true) (hs : ti.size = 2) => AK ti ha hs cs i p hp
  rw [DG cs i p hp, sI] at hmk
  cases hb : uW t p.1 p.2 with
  | false =>
   rw [hb] at hmk
   rw [if_neg (by decide), hT] at hmk
   cases hmk
  | true =>
   rw [if_pos hb] at hmk
   have hok' := hok.add hb
   have hN : ∀ w, 0 ≤ iJ w t.beg ∧ iJ w t.beg ≤ 1000000 := fun w => by have := hok.beg w; omega
   have hL := hok.lng
   have hC := hok.len
   rcases hcase with ⟨hi0, rfl, rfl⟩ | ⟨hi0, rfl⟩
   ·subst hi0
    have e0 : p = p0 := by rw [h0] at hp; exact (Option.some.inj hp).symm
    subst e0
    have ha := DX (gl := gl) tb0 p.1 p.2 hrl hb hN (by omega) rfl
    unfold JV
    unfold JW HF at ha
    repeat' (first | refine aa.aD ?_ | (apply aa.q true; rfl; rfl; rfl; rfl; first | exact True.intro | omega | (simp only [tn, Int.reduceToNat]; omega) | (rw [hln]; omega)) | (refine aa.ae [3,0,1,2] ( ha) ?_; simp only [ny, nh, Nat.reduceAdd, Nat.reduceSub]) | refine aa.ah ?_ | refine aa.af ?_ | refine aa.ai ?_ | (refine aa.aG ?_; simp only [nm, nz, Nat.reduceAdd]) | (refine aa.aP ?_; simp only [nm, nz, Nat.reduceAdd]) | (refine aa.az ?_; simp only [nm, nz, Nat.reduceAdd]) | (refine aa.bz ?_; simp only [nm, nz, Nat.reduceAdd, bS, dF, AV.unD]) | refine aa.aj ?_ | refine aa.bh ?_ | (apply aa.mE; (iterate 6 rfl); exact (g1 _ rfl rfl)) | (refine aa.qW ?_; simp only [List.length_cons, List.length_nil, Nat.reduceAdd, List.cons_append, List.nil_append]) | intro _)
    exact aa.round [(22, I ((0 + 1 : Nat) : Int)), (21, I cs.length), (20, .d (.sl 2 (ba cs))), (4, .ptr 3 0)] (cs.length - 1) (by omega) ⟨rfl, rfl, rfl, rfl, trivial⟩ ⟨1, _, rfl, hlt, hok', hmk, rfl, .inr ⟨by omega, rfl⟩⟩
   ·have ha := DW (gl := gl) t p.1 p.2 hrl hb hN (by omega) (by omega)
    unfold CK
    unfold HL at ha
    repeat' (first | refine aa.aD ?_ | (apply aa.q true; rfl; rfl; rfl; rfl; first | exact True.intro | omega | (simp only [tn, Int.reduceToNat]; omega) | (rw [hln]; omega)) | (refine aa.ae [3,0,1,2,6] ( ha) ?_; simp only [ny, nh, Nat.reduceAdd, Nat.reduceSub]) | refine aa.ah ?_ | refine aa.af ?_ | refine aa.ai ?_ | (refine aa.aG ?_; simp only [nm, nz, Nat.reduceAdd]) | (refine aa.aP ?_; simp only [nm, nz, Nat.reduceAdd]) | (refine aa.az ?_; simp only [nm, nz, Nat.reduceAdd]) | (refine aa.bz ?_; simp only [nm, nz, Nat.reduceAdd, bS, dF, AV.unD]) | refine aa.aj ?_ | refine aa.bh ?_ | (apply aa.mE; (iterate 6 rfl); exact (g1 _ rfl rfl)) | (refine aa.qW ?_; simp only [List.length_cons, List.length_nil, Nat.reduceAdd, List.cons_append, List.nil_append]) | intro _)
    refine aa.drop 7 (env' := [(22, I ((i + 1 : Nat) : Int)), (21, I cs.length), (20, .d (.sl 2 (ba cs))), (4, .ptr 3 0)]) (Nat.zero_le _) (by simp) (fun o ho => eY (m := 7) rfl o ho) ⟨rfl, rfl, rfl, rfl, trivial⟩ (ib 7 _ rfl) ?_
    exact aa.round [(22, I ((i + 1 : Nat) : Int)), (21, I cs.length), (20, .d (.sl 2 (ba cs))), (4, .ptr 3 0)] (cs.length - (i + 1)) (by omega) ⟨rfl, rfl, rfl, rfl, trivial⟩ ⟨i + 1, _, rfl, hlt, hok', hmk, rfl, .inr ⟨by omega, rfl⟩⟩
 ·obtain rfl : i = cs.length := by omega
  rw [List.drop_length, Ah] at hmk
  rw [hT] at hmk
  obtain rfl := Option.some.inj hmk
  rcases hcase with ⟨hi0, _, _⟩ | ⟨hi0, rfl⟩
  ·omega
  ·repeat (first | refine aa.aD ?_ | refine aa.aY true ?_ | refine aa.ah ?_ | refine aa.af ?_ | refine aa.ai ?_ | (refine aa.aG ?_; simp only [nm, nz, Nat.reduceAdd]) | (refine aa.aP ?_; simp only [nm, nz, Nat.reduceAdd]) | (refine aa.az ?_; simp only [nm, nz, Nat.reduceAdd]) | (refine aa.bz ?_; simp only [nm, nz, Nat.reduceAdd, bS, dF, AV.unD]) | refine aa.aj ?_ | refine aa.bh ?_)
   refine aa.out rfl ⟨_, rfl, ?_⟩
   unfold CK
   repeat (first | refine aa.aD ?_ | refine aa.aY true ?_ | refine aa.ah ?_ | refine aa.af ?_ | refine aa.ai ?_ | (refine aa.aG ?_; simp only [nm, nz, Nat.reduceAdd]) | (refine aa.aP ?_; simp only [nm, nz, Nat.reduceAdd]) | (refine aa.az ?_; simp only [nm, nz, Nat.reduceAdd]) | (refine aa.bz ?_; simp only [nm, nz, Nat.reduceAdd, bS, dF, AV.unD]) | refine aa.aj ?_ | refine aa.bh ?_)
   (apply aa.xX 7; rfl; rfl; rfl; rfl; rfl)
   exact ⟨rfl, rfl⟩
end Px
namespace Px
open Go Bt
attribute [local irreducible] aa ACalls
variable {gl : List (Nat × List D)}
theorem jw (s : List UInt8) (p : Nat) (hs : s.length < 1000000000000000) (h : p < 8 * s.length) : ACalls (cxg gl) 99 [.ptr 0 0, I 1] [Rd s p] (fun r H => r = .bW [I (dS s p), I 0] ∧ H = [Rd s ((p + 1 : Nat) : Int)]) := by
 have := nM (gl := gl) s p (by omega) hs (by omega)
 rwa [show pk1 s p = (dS s p, 0) by unfold pk1; rw [if_neg (by omega)], show Bt.tk1 s p = ((p + 1 : Nat) : Int) by unfold Bt.tk1; rw [if_neg (by omega)]; omega] at this
theorem lJ (s : List UInt8) (p : Nat) (hs : s.length < 1000000000000000) (h : p = 8 * s.length) : ACalls (cxg gl) 99 [.ptr 0 0, I 1] [Rd s p] (fun r H => r = .bW [I 0, I 2] ∧ H = [Rd s p]) := by
 have := nM (gl := gl) s p (by omega) hs (by omega)
 rwa [show pk1 s p = (0, 2) by unfold pk1; rw [if_pos (by omega)], show Bt.tk1 s p = p by unfold Bt.tk1; rw [if_pos (by omega)]] at this
def kU (t : Tb) (i : Int) : Int := (t.codes.getD i.toNat ([], 0)).2
def mM (t : Tb) : List UInt8 → List UInt8 → Int × Int × Nat
 | [], _ => (0, 2, 0)
 | x :: r, w => match cO (w ++ [x]) t.sym 0 with
  | some (_, i) => (kU t i, 0, w.length + 1)
  | none => if iJ (w ++ [x]) t.beg = 0 then (0, 3, 0) else mM t r (w ++ [x])
def wH (p : Nat) (x : Int × Int × Nat) : Nat := if x.2.1 = 0 then p + x.2.2 else p
theorem DI (b : Int) (h : b = 0 ∨ b = 1) : (([48, 49] : List UInt8).take (b + 1).toNat).drop b.toNat = [bJ b] := by rcases h with rfl | rfl <;> rfl
theorem GG (t : Tb) (i : Int) (h : 0 ≤ i ∧ i < (t.codes.length : Int)) : (ba t.codes).getD i.toNat .top = kO ((t.codes.getD i.toNat ([], 0)).1, kU t i) := by
 have hl : i.toNat < t.codes.length := by omega
 rw [uD t.codes i.toNat t.codes[i.toNat] (by simp [hl])]
 unfold kU
 simp [List.getD, hl]
attribute [local irreducible] bQ d9 ba dS aC kU bJ
theorem Bd (t : Tb) (s : List UInt8) (p : Nat) (hs : s.length ≤ 1000000) (hp : p ≤ 8 * s.length) (hsym : ∀ w j i, cO w t.sym 0 = some (j, i) → 0 ≤ i ∧ i < (t.codes.length : Int)) :
  ACalls (cxg gl) 163 [.ptr 3 0, .ptr 4 0] [.map (bQ t.sym), .map (d9 t.rws), .map (bQ t.beg), .cells [.own 2 (ba t.codes) 5, .mp 0, .mp 1, .mp 2, I t.lng], Rd s p, .front 199 2 (ba t.codes).length]
   (fun r H => r = .bW [I (mM t ((aC s p).map bJ) []).1, I (mM t ((aC s p).map bJ) []).2.1] ∧
    H = [.map (bQ t.sym), .map (d9 t.rws), .map (bQ t.beg), .cells [.own 2 (ba t.codes) 5, .mp 0, .mp 1, .mp 2, I t.lng], Rd s (wH p (mM t ((aC s p).map bJ) [])), .front 199 2 (ba t.codes).length]) := by
 have hcl := dG t.codes
 refine ACalls.enter Tryz.func163 rfl Tryz.ntmps163 (by kernel_rfl) rfl ?_; simp only [aB, nm, Nat.reduceAdd]
 repeat (first | refine aa.aD ?_ | refine aa.aY true ?_ | (refine aa.ae [4] ( qG s p) ?_; simp only [ny, nh, Nat.reduceAdd, Nat.reduceSub]) | refine aa.ah ?_ | refine aa.af ?_ | refine aa.av ?_ | refine aa.ai ?_ | refine aa.aj ?_)
 refine aa.weak (env' := [(8, S []), (7, I p), (6, I 0), (1, .ptr 4 0), (0, .ptr 3 0)]) ⟨rfl, rfl, rfl, rfl, rfl, trivial⟩ ?_
 refine aa.loop (fun m env H => ∃ (k : Nat) (w : List UInt8), m = 8 * s.length - (p + k) ∧ p + k ≤ 8 * s.length ∧ w.length = k ∧ mM t ((aC s (p + k)).map bJ) w = mM t ((aC s p).map bJ) [] ∧
  env = [(8, S w), (7, I p), (6, I 0), (1, .ptr 4 0), (0, .ptr 3 0)] ∧ H = [.map (bQ t.sym), .map (d9 t.rws), .map (bQ t.beg), .cells [.own 2 (ba t.codes) 5, .mp 0, .mp 1, .mp 2, I t.lng], Rd s ((p + k : Nat) : Int), .front 199 2 (ba t.codes).length]) (8 * s.length - p)
  ⟨0, [], by simp, by omega, rfl, rfl, rfl, rfl⟩ ?_
 rintro m env H ⟨k, w, rfl, hk, hw, hm, rfl, rfl⟩
 have sk := fun q : Nat => fM (gl := gl) s q p (by omega) ⟨by omega, by omega⟩
 rcases Nat.lt_or_ge (p + k) (8 * s.length) with hlt | hge
 ·rw [ik s _ hlt, List.map_cons, mM] at hm
  have t1 := jw (gl := gl) s (p + k) (by omega) hlt
  have hb := mL s ((p + k : Nat) : Int)
  have he := DI (dS s ((p + k : Nat) : Int)) (by omega)
  generalize dS s ((p + k : Nat) : Int) = b at *
  have f3 := dD (w ++ (([48, 49] : List UInt8).take (b + 1).toNat).drop b.toNat) t.sym 0
  have f4 := dD (w ++ (([48, 49] : List UInt8).take (b + 1).toNat).drop b.toNat) t.beg 0
  rw [he] at f3 f4
  have hln : (w ++ (([48, 49] : List UInt8).take (b + 1).toNat).drop b.toNat).length = k + 1 := by rw [he, List.length_append, hw]; rfl
  cases h5 : cO (w ++ [bJ b]) t.sym 0 with
  | some jv =>
   obtain ⟨j, i⟩ := jv
   rw [h5] at f3 hm
   have hi := hsym _ _ _ h5
   have hcg := GG t i hi
   rw [← he] at f3
   simp only at hm
   rw [← hm]
   repeat' (first | refine aa.aD ?_ | (apply aa.q true; rfl; rfl; rfl; rfl; first | exact True.intro | omega | (simp only [tn, Int.reduceToNat]; omega) | (simp only [List.length_drop, List.length_take, List.length_cons, List.length_nil, hw]; omega) | (rw [hcl]; omega)) | (refine aa.ae [4] ( t1) ?_; simp only [ny, nh, Nat.reduceAdd, Nat.reduceSub]) | refine aa.ah ?_ | refine aa.af ?_ | refine aa.av ?_ | refine aa.ai ?_ | refine aa.aj ?_ | (apply aa.lookup; (iterate 13 rfl); kernel_rfl; exact f3; rfl) | (rw [hcg]) | intro _ | refine aa.aQ ?_)
   all_goals first | exact ⟨rfl, by rw [hw]; rfl⟩
  | none =>
   rw [h5] at f3 hm
   rw [← he] at f3
   simp only at hm
   cases h6 : cO (w ++ [bJ b]) t.beg 0 with
   | none =>
    rw [h6] at f4
    rw [← he] at f4
    rw [lX h6, if_pos rfl] at hm
    rw [← hm]
    repeat' (first | refine aa.aD ?_ | (apply aa.q true; rfl; rfl; rfl; rfl; first | exact True.intro | omega | (simp only [tn, Int.reduceToNat]; omega) | (simp only [List.length_drop, List.length_take, List.length_cons, List.length_nil, hw]; omega)) | (refine aa.ae [4] ( t1) ?_; simp only [ny, nh, Nat.reduceAdd, Nat.reduceSub]) | (refine aa.ae [4] ( sk (p + k + 1)) ?_; simp only [ny, nh, Nat.reduceAdd, Nat.reduceSub]) | refine aa.ah ?_ | refine aa.af ?_ | refine aa.av ?_ | refine aa.ai ?_ | refine aa.aj ?_ | (apply aa.lookup; (iterate 13 rfl); kernel_rfl; exact f3; rfl) | (apply aa.lookup; (iterate 13 rfl); kernel_rfl; exact f4; rfl) | intro _ | refine aa.aQ ?_)
    all_goals first | exact ⟨rfl, rfl⟩
   | some jv =>
    obtain ⟨j, n⟩ := jv
    rw [h6] at f4
    rw [← he] at f4
    rw [fZ h6] at hm
    by_cases hn : n = 0
    ·subst hn
     rw [if_pos rfl] at hm
     rw [← hm]
     repeat' (first | refine aa.aD ?_ | (apply aa.q true; rfl; rfl; rfl; rfl; first | exact True.intro | omega | (simp only [tn, Int.reduceToNat]; omega) | (simp only [List.length_drop, List.length_take, List.length_cons, List.length_nil, hw]; omega)) | (refine aa.ae [4] ( t1) ?_; simp only [ny, nh, Nat.reduceAdd, Nat.reduceSub]) | (refine aa.ae [4] ( sk (p + k + 1)) ?_; simp only [ny, nh, Nat.reduceAdd, Nat.reduceSub]) | refine aa.ah ?_ | refine aa.af ?_ | refine aa.av ?_ | refine aa.ai ?_ | refine aa.aj ?_ | (apply aa.lookup; (iterate 13 rfl); kernel_rfl; exact f3; rfl) | (apply aa.lookup; (iterate 13 rfl); kernel_rfl; exact f4; rfl) | intro _ | refine aa.aQ ?_)
     all_goals first | exact ⟨rfl, rfl⟩
    ·rw [if_neg hn] at hm
     repeat' (first | refine aa.aD ?_ | (apply aa.q true; rfl; rfl; rfl; rfl; first | exact True.intro | omega | (simp only [tn, Int.reduceToNat]; omega) | (simp only [List.length_drop, List.length_take, List.length_cons, List.length_nil, hw]; omega)) | (refine aa.ae [4] ( t1) ?_; simp only [ny, nh, Nat.reduceAdd, Nat.reduceSub]) | refine aa.ah ?_ | refine aa.af ?_ | refine aa.av ?_ | refine aa.ai ?_ | refine aa.aj ?_ | (apply aa.lookup; (iterate 13 rfl); kernel_rfl; exact f3; rfl) | (apply aa.lookup; (iterate 13 rfl); kernel_rfl; exact f4; rfl) | intro _ | refine aa.aQ ?_)
     exact aa.round [(8, S (w ++ [bJ b])), (7, I p), (6, I 0), (1, .ptr 4 0), (0, .ptr 3 0)] (8 * s.length - (p + (k + 1))) (by omega) ⟨congrArg S (by rw [← he]), rfl, rfl, rfl, rfl, trivial⟩ ⟨k + 1, w ++ [bJ b], rfl, by omega, by rw [List.length_append, hw]; rfl, hm, rfl, rfl⟩
 ·have hpk : p + k = 8 * s.length := by omega
  rw [kr s _ hge, List.map_nil, mM] at hm
  rw [← hm]
  have t1 := lJ (gl := gl) s (p + k) (by omega) hpk
  repeat' (first | refine aa.aD ?_ | refine aa.aY true ?_ | (refine aa.ae [4] ( t1) ?_; simp only [ny, nh, Nat.reduceAdd, Nat.reduceSub]) | (refine aa.ae [4] ( sk (p + k)) ?_; simp only [ny, nh, Nat.reduceAdd, Nat.reduceSub]) | refine aa.ah ?_ | refine aa.af ?_ | refine aa.av ?_ | refine aa.ai ?_ | refine aa.aj ?_ | intro _ | refine aa.aQ ?_)
  all_goals first | exact ⟨rfl, rfl⟩
end Px
namespace Px
open Go Bt
theorem rB (row w : List UInt8) (hw : w ≠ []) (l : List (List UInt8 × Int)) : ∀ k, k ≤ row.length → iJ w (cg row k l) = iJ w l + (if w.length ≤ k ∧ w.isPrefixOf row = true then 1 else 0)
 | 0, _ => by
  have : ¬ w.length ≤ 0 := fun h => hw (List.eq_nil_of_length_eq_zero (by omega))
  rw [if_neg (fun h => this h.1)]; simp [cg]
 | k + 1, hk => by
  have hk' : k ≤ row.length := by omega
  rw [cg, uo]
  have hne : row.take (k + 1) ≠ [] := fun h => by
   have := congrArg List.length h
   rw [List.length_take, List.length_nil] at this; omega
  have hlen : (row.take (k + 1)).length = k + 1 := by rw [List.length_take]; omega
  by_cases e : w = row.take (k + 1)
  ·rw [if_pos e]
   have h1 := rB row (row.take (k + 1)) hne l k hk'
   rw [if_neg (by rw [hlen]; omega)] at h1
   rw [h1, e, hlen, if_pos ⟨Nat.le_refl _, List.isPrefixOf_iff_prefix.2 (List.take_prefix _ _)⟩]; omega
  ·rw [if_neg e, rB row w hw l k hk']
   congr 1
   by_cases hp : w.isPrefixOf row = true
   ·have hpe := List.prefix_iff_eq_take.1 (List.isPrefixOf_iff_prefix.1 hp)
    have hne' : w.length ≠ k + 1 := fun h => e (by rw [← h]; exact hpe)
    by_cases hl : w.length ≤ k
    ·rw [if_pos ⟨hl, hp⟩, if_pos ⟨by omega, hp⟩]
    ·rw [if_neg (fun h => hl h.1), if_neg (fun h => by have := h.1; omega)]
   ·rw [if_neg (fun h => hp h.2), if_neg (fun h => hp h.2)]
def wN {α : Type} (l : List α) : List (α × Int) := List.zipWith (fun (i : Nat) (x : α) => (x, (i : Int))) (List.range l.length) l
theorem qU {α : Type} (l : List α) (x : α) : wN (l ++ [x]) = wN l ++ [(x, (l.length : Int))] := by
 unfold wN
 rw [List.length_append, List.length_singleton, List.range_succ, List.zipWith_append (by simp)]
 rfl
theorem ql {α : Type} [DecidableEq α] (w : α) : ∀ (l r : List (α × Int)) (i : Nat), cO w (l ++ r) i = match cO w l i with | some x => some x | none => cO w r (i + l.length)
 | [], r, i => by simp [cO]
 | (k, v) :: l, r, i => by
  simp only [List.cons_append, cO]
  by_cases h : w = k
  ·simp [h]
  ·rw [if_neg h, if_neg h, ql w l r (i + 1), List.length_cons]
   rw [show i + 1 + l.length = i + (l.length + 1) by omega]
theorem rU (w : List UInt8) : ∀ (l r : List (List UInt8)) (i : Nat), jQ w (l ++ r) i = match jQ w l i with | some x => some x | none => jQ w r (i + l.length)
 | [], r, i => by simp [jQ]
 | x :: l, r, i => by
  simp only [List.cons_append, jQ]
  by_cases h : x = w
  ·simp [h]
  ·rw [if_neg h, if_neg h, rU w l r (i + 1), List.length_cons]
   rw [show i + 1 + l.length = i + (l.length + 1) by omega]
theorem uq (w : List UInt8) (l : List (List UInt8)) : cO w (wN l) 0 = (jQ w l 0).map fun (i : Nat) => (i, (i : Int)) := by
 refine lL (P := fun l => cO w (wN l) 0 = (jQ w l 0).map fun (i : Nat) => (i, (i : Int))) rfl (fun l x ih => ?_) l
 rw [qU, ql, rU, ih]
 have hl : (wN l).length = l.length := by simp [wN]
 cases jQ w l 0 with
 | some i => rfl
 | none =>
  simp only [Option.map_none, cO, jQ, Nat.zero_add, hl]
  by_cases h : w = x
  ·rw [if_pos h, if_pos h.symm]; rfl
  ·rw [if_neg h, if_neg (fun e => h e.symm)]; rfl
structure sx (t : Tb) (cs : List (List UInt8 × Int)) : Prop where
 codes : t.codes = cs
 sym : t.sym = wN (cs.map (·.1))
 rws : t.rws = wN (cs.map (·.2))
 beg : ∀ w, w ≠ [] → iJ w t.beg = ((cs.filter fun p => w.isPrefixOf p.1).length : Int)
theorem JY : sx tb0 [] := ⟨rfl, rfl, rfl, fun w _ => rfl⟩
theorem sx.add {t : Tb} {cs : List (List UInt8 × Int)} (h : sx t cs) (row : List UInt8) (sy : Int) : sx (gh t row sy) (cs ++ [(row, sy)]) := by
 have hl : t.codes.length = cs.length := by rw [h.codes]
 refine ⟨by simp [gh, h.codes], ?_, ?_, fun w hw => ?_⟩
 ·simp only [gh, List.map_append, List.map_singleton]
  rw [qU, h.sym, hl, List.length_map]
 ·simp only [gh, List.map_append, List.map_singleton]
  rw [qU, h.rws, hl, List.length_map]
 ·simp only [gh]
  rw [rB row w hw t.beg row.length (Nat.le_refl _), h.beg w hw, List.filter_append, List.length_append]
  by_cases hp : w.isPrefixOf row = true
  ·rw [if_pos ⟨(List.isPrefixOf_iff_prefix.1 hp).length_le, hp⟩]; simp [hp]
  ·rw [if_neg (fun h => hp h.2)]; simp [hp]
theorem JA : ∀ (rest : List (List UInt8 × Int)) (t T : Tb) (cs : List (List UInt8 × Int)), sx t cs → mk rest t = some T → sx T (cs ++ rest)
 | [], t, T, cs, h, hm => by rw [Ah] at hm; cases hm; simpa using h
 | p :: r, t, T, cs, h, hm => by
  rw [sI] at hm
  split at hm
  ·have := JA r _ T _ (h.add p.1 p.2) hm
   simpa using this
  ·cases hm
theorem Fv {cs : List (List UInt8 × Int)} {T : Tb} (h : mk cs tb0 = some T) : sx T cs := by simpa using JA cs tb0 T [] JY h
theorem xh (w : List UInt8) : ∀ (l : List (List UInt8)) (i j : Nat), jQ w l i = some j → i ≤ j ∧ j < i + l.length
 | [], i, j, h => by simp [jQ] at h
 | r :: l, i, j, h => by
  simp only [jQ] at h
  split at h
  ·simp only [Option.some.injEq] at h; subst h; simp
  ·have := xh w l _ _ h; simp only [List.length_cons]; omega
theorem sx.Ju {t : Tb} {cs : List (List UInt8 × Int)} (h : sx t cs) : ∀ w j i, cO w t.sym 0 = some (j, i) → 0 ≤ i ∧ i < (t.codes.length : Int) := by
 intro w j i hf
 rw [h.sym, uq] at hf
 cases hx : jQ w (cs.map (·.1)) 0 with
 | none => simp [hx] at hf
 | some k =>
  simp [hx] at hf
  obtain ⟨rfl, rfl⟩ := hf
  have := xh _ _ _ _ hx
  rw [h.codes]
  simp at this; omega
theorem oM {t : Tb} {cs : List (List UInt8 × Int)} (h : sx t cs) : ∀ (D w : List UInt8), mM t D w = (if (cV (cs.map (·.1)) D w).2.1 = 0 then kU t (cV (cs.map (·.1)) D w).1 else 0, (cV (cs.map (·.1)) D w).2)
 | [], w => rfl
 | x :: D, w => by
  rw [mM, cV, jo, h.sym, uq]
  have hne : w ++ [x] ≠ [] := by simp
  have hb := h.beg (w ++ [x]) hne
  cases hf : jQ (w ++ [x]) (cs.map (·.1)) 0 with
  | some i => rfl
  | none =>
   simp only [Option.map_none]
   have hany : (cs.map (·.1)).any (fun r => (w ++ [x]).isPrefixOf r) = true ↔ ¬ iJ (w ++ [x]) t.beg = 0 := by
    rw [hb, List.any_map, List.any_eq_true]
    constructor
    ·rintro ⟨p, hp, hpp⟩ h0
     have : (cs.filter fun p => (w ++ [x]).isPrefixOf p.1) = [] := List.eq_nil_of_length_eq_zero (by omega)
     have hm : p ∈ cs.filter fun p => (w ++ [x]).isPrefixOf p.1 := List.mem_filter.2 ⟨hp, hpp⟩
     rw [this] at hm; cases hm
    ·intro h0
     cases hl : cs.filter fun p => (w ++ [x]).isPrefixOf p.1 with
     | nil => rw [hl] at h0; exact (h0 rfl).elim
     | cons p r =>
      have hm : p ∈ cs.filter fun p => (w ++ [x]).isPrefixOf p.1 := by rw [hl]; simp
      obtain ⟨h1, h2⟩ := List.mem_filter.1 hm
      exact ⟨p, h1, h2⟩
   by_cases h0 : iJ (w ++ [x]) t.beg = 0
   ·rw [if_pos h0, if_neg (fun e => hany.1 e h0)]; rfl
   ·rw [if_neg h0, if_pos (hany.2 h0)]
    exact oM h D (w ++ [x])
end Px
namespace Px
open Go Bt
attribute [local irreducible] aa ACalls
variable {gl : List (Nat × List D)}
def csL : List (List UInt8 × Int) := [([49], 7), ([48, 49], 8)]
def TL : Tb := gh (gh tb0 [49] 7) [48, 49] 8
theorem cz : mk csL tb0 = some TL := by
 unfold csL
 rw [sI, if_pos (by decide +kernel), sI, if_pos (by decide +kernel), Ah]
 rfl
theorem kX (rows : List (List UInt8)) : ∀ (D w : List UInt8), (cV rows D w).2.1 = 0 → 0 ≤ (cV rows D w).1 ∧ (cV rows D w).1 < rows.length
 | [], w, h => by simp [cV] at h
 | x :: D, w, h => by
  rw [cV] at h ⊢
  unfold jo at h ⊢
  cases hf : jQ (w ++ [x]) rows 0 with
  | some i =>
   have := xh _ _ _ _ hf
   simp only; omega
  | none =>
   rw [hf] at h
   simp only at h ⊢
   by_cases ha : rows.any (fun r => (w ++ [x]).isPrefixOf r) = true
   ·rw [if_pos ha] at h ⊢
    exact kX rows D (w ++ [x]) h
   ·rw [if_neg ha] at h; simp at h
attribute [local irreducible] bQ d9 ba uW gh mk mM aC jf TL csL iY
end Px
end Go.Proofs.YtbfojhfiemcnpaaGreatDoor.Av
