/- Cells: what stands ahead of a cell's pattern is written. -/
import Derived.Test.YtbpednchkndocaaGreatDoorCo3
import Derived.Test.YtbpednchkndocaaGreatDoorPy7
import Derived.Test.YtbpednchkndocaaGreatDoorPq3
set_option linter.unusedVariables false
set_option linter.unusedSimpArgs false
set_option maxRecDepth 100000
set_option maxHeartbeats 64000000
namespace Go.Proofs.YtbpednchkndocaaGreatDoor.Av
namespace Co
open Go Bt Tc Wr Bl Mb
attribute [local irreducible] aa ACalls
variable {gl:List (Nat×List D)}
noncomputable abbrev gA:List (Nat×List D):=[(0,gl0),(3,gl3),(1,gl1),(2,gl2)]
theorem Kn:∀p∈gsp,p∈gA:=by simp[gsp,gA]
def again (b:Bool):List UInt8:=if b=true then [48] else []
def dh (b:Bool):List UInt8:=again b++eO b 5 0
def ku (c:Cel):Int:=(((eC c).toNat &&& (3:Int).toNat:Nat):Int)
theorem qV (c:Cel):0≤eC c∧eC c≤63:=by
 have:=lu c.e0
 have:=lu c.e1
 have:=lu c.e2
 have:=lu c.e3
 have:=lu c.e4
 have:=lu c.e5
 unfold eC;omega
theorem wm (c:Cel):ku c=eC c%4:=by
 have h:=qV c
 have e:(eC c).toNat &&& (3:Int).toNat=(eC c).toNat%2^2:=Nat.and_two_pow_sub_one_eq_mod _ 2
 unfold ku
 rw[e];omega
def jH (b:Bool) (c:Cel):List UInt8:=if c.skip=true then [49] else again b++eO b c.kind (ku c)
def eu (b:Bool) (c:Cel):List UInt8:=(List.replicate c.stuff.toNat (dh b)).flatten++jH b c
theorem xw:∀b:Bool,lc b 5 0=true:=by decide +kernel
theorem Gu:∀b:Bool,∀k:_root_.Fin 5,∀ch:_root_.Fin 4,(aI k.val||(b&&decide ((k.val:Int)=0∨(k.val:Int)=1)))=true→lc b k.val ch.val=true:=by decide +kernel
theorem Bp {b:Bool} {c:Cel} (h:iN b c=true):0≤c.kind∧c.kind≤4:=by
 unfold iN aI at h
 simp only[Bool.or_eq_true,Bool.and_eq_true,decide_eq_true_eq]at h
 omega
theorem um {b:Bool} {c:Cel} (h:iN b c=true):lc b c.kind (ku c)=true:=by
 have hb:=Bp h
 have hc:=qV c
 rw[wm]
 have:=Gu b ⟨c.kind.toNat,by omega⟩ ⟨(eC c%4).toNat,by omega⟩
 simp only at this
 rw[show ((c.kind.toNat:Nat):Int)=c.kind by omega,show (((eC c%4).toNat:Nat):Int)=eC c%4 by omega]at this
 exact this h
theorem qz (b:Bool):(again b).all bC=true∧(again b).length≤1:=by cases b<;>decide
theorem yC (b:Bool):(dh b).all bC=true∧(dh b).length≤10:=by
 obtain⟨_,h2,h3⟩:=pO b 5 0 (xw b)
 obtain⟨a1,a2⟩:=qz b
 unfold dh
 rw[List.all_append,a1,h3,List.length_append]
 exact⟨rfl,by omega⟩
theorem Li (r:List UInt8) (h:r.all bC=true) (n:Nat):((List.replicate n r).flatten).all bC=true∧((List.replicate n r).flatten).length=n*r.length:=by
 induction n with
 |zero=>simp
 |succ n ih =>
  rw[List.replicate_succ,List.flatten_cons,List.all_append,h,ih.1,List.length_append,ih.2,Nat.succ_mul]
  exact⟨rfl,by omega⟩
theorem FO (r:List UInt8) (n:Nat):(List.replicate (n+1) r).flatten=(List.replicate n r).flatten++r:=by
 rw[List.replicate_succ',List.flatten_append];simp
theorem Ay {b:Bool} {c:Cel} (h:c.skip=true∨iN b c=true):(jH b c).all bC=true∧(jH b c).length≤10:=by
 unfold jH
 split
 ·exact⟨rfl,by decide⟩
 ·rename_i hs
  have h':iN b c=true:=by rcases h with h|h;exact absurd h hs;exact h
  obtain⟨_,h2,h3⟩:=pO b c.kind (ku c) (um h')
  obtain⟨a1,a2⟩:=qz b
  rw[List.all_append,a1,h3,List.length_append]
  exact⟨rfl,by omega⟩
abbrev OC (c:Cel):List AV:=[I c.stuff,B c.skip,I c.kind,I c.step,I c.mx,I c.my,I c.d0,I c.d1,I c.d2,I c.d3,I c.d4,I c.d5, .d (evS c.e0), .d (evS c.e1), .d (evS c.e2), .d (evS c.e3), .d (evS c.e4), .d (evS c.e5)]
attribute [local irreducible] bB ba cn eO lc eC
theorem GH (w:List UInt8) (b:Bool) (c:Cel) (hs:0≤c.stuff∧c.stuff≤64) (h:c.skip=true∨iN b c=true) (hw:w.all bC=true) (hwl:w.length≤20000000) :
  ACalls (cxg gA) 147 [.ptr 0 0,B b, .d (fw c)] (WO w) (fun r H=>r = .aX []∧H=WO (w++eu b c)):=by
 have m5:=(Cy b 5 0).more Kn
 rw[xw b]at m5
 obtain⟨s1,s2⟩:=yC b
 have rk:=fun n=>Li (dh b) s1 n
 have inv:∀n,n≤64→(w++(List.replicate n (dh b)).flatten).all bC=true∧(w++(List.replicate n (dh b)).flatten).length≤20000640:=fun n hn=>by
  obtain⟨k1,k2⟩:=rk n
  have:n*(dh b).length≤64*10:=Nat.mul_le_mul hn s2
  rw[List.all_append,hw,k1,List.length_append,k2]
  exact⟨rfl,by omega⟩
 obtain⟨n,hn⟩:=Int.eq_ofNat_of_zero_le hs.1
 obtain⟨i1,i2⟩:=inv n (by omega)
 obtain⟨t1,t2⟩:=Ay h
 have at1:=Ao (gl:=gA) (w++(List.replicate n (dh b)).flatten) (jH b c) i1 t1 (by omega)
 have cc:=(JM (gl:=gA) c)
 have mc:=(Cy b c.kind (ku c)).more Kn
 have hml:(eO b 5 0).length≤9:=(pO b 5 0 (xw b)).2.1
 have hfin:w++eu b c=w++(List.replicate n (dh b)).flatten++jH b c:=by
  unfold eu;rw[hn,Int.toNat_natCast,List.append_assoc]
 rw[hfin]
 have e0:w=w++(List.replicate 0 (dh b)).flatten:=by simp
 have hadd:=fun i hi=>Ao (gl:=gA) (w++(List.replicate i (dh b)).flatten) (dh b) (inv i hi).1 s1 (by have:=(inv i hi).2;omega)
 have hsr:dh b=again b++eO b 5 0:=rfl
 have htr:jH b c=if c.skip=true then [49] else again b++eO b c.kind (ku c):=rfl
 have hcd:=qV c
 have hm5:(again b++eO b 5 0).length≤100:=by have:=(qz b).2;rw[List.length_append];omega
 have hmk:iN b c=true→(again b++eO b c.kind (ku c)).length≤100:=fun hh=>by
  have:=(qz b).2
  have:=(pO b c.kind (ku c) (um hh)).2.1
  rw[List.length_append];omega
 rw[htr]at at1 ⊢
 rcases Bool.eq_false_or_eq_true b with hb|hb
 all_goals
  refine ACalls.en Tryz.func147 Tryz.ntmps147 ?_
  repeat (first|refine aa.bN true ?_|refine aa.ae (m5) ?_|refine aa.aV (m5) ?_|(apply aa.cBT;rfl;first|(simp only[bT];omega)|(exact hb))|(apply aa.cBF;rfl;first|(simp only[bF];omega)|exact ndF rfl|(exact hb))|refine aa.iR ?_)
  refine aa.weak (env':=[(19,I ((0:Nat):Int)),(18,I c.stuff),(7,S (eO b 5 0)),(6,S (again b)),(5, .ptr 2 0),(0, .ptr 0 0),(1,B b)]) ⟨rfl,rfl,rfl,congrArg S (by rw[hb];rfl),rfl,rfl,rfl,trivial⟩ ?_
  refine aa.loop (fun m env H=>∃i:Nat,m=n - i∧i≤n∧env=[(19,I (i:Int)),(18,I c.stuff),(7,S (eO b 5 0)),(6,S (again b)),(5, .ptr 2 0),(0, .ptr 0 0),(1,B b)] ∧
   H=[.cells [.ms 1 (ba (cn (w++(List.replicate i (dh b)).flatten))).length,I (w++(List.replicate i (dh b)).flatten).length], .arr 5 1 (ba (cn (w++(List.replicate i (dh b)).flatten))), .cells (OC c)]) n
   ⟨0,rfl,by omega,rfl,by rw[←e0]⟩ ?_
  rintro m env H ⟨i,rfl,hi,rfl,rfl⟩
  rcases Nat.lt_or_ge i n with hlt|hge
  ·have ad:=hadd i (by omega)
   rw[List.append_assoc,←FO,hsr]at ad
   repeat' (first|((first|apply aa.q true|apply aa.qq true);rfl;rfl;rfl;rfl;first|exact True.intro|omega|(simp only[tn,Int.reduceToNat];omega)|(simp only[List.length_append]at *;omega))|refine aa.ah [0,1] ( ad) ?_|intro _|refine aa.aR ?_)
   all_goals first|exact aa.round [(19,I ((i+1:Nat):Int)),(18,I c.stuff),(7,S (eO b 5 0)),(6,S (again b)),(5, .ptr 2 0),(0, .ptr 0 0),(1,B b)] (n - (i+1)) (by omega) ⟨rfl,rfl,rfl,rfl,rfl,rfl,rfl,trivial⟩ ⟨i+1,rfl,hlt,rfl,rfl⟩
  ·obtain rfl:i=n:=by omega
   cases hk:c.skip with
   |true =>
    rw[hk]at at1
    simp only[if_true]at at1 ⊢
    repeat' (first|refine aa.bN true ?_|refine aa.ah [0,1] ( at1) ?_|(apply aa.cBT;rfl;first|(simp only[bT];omega)|(exact hk))|(apply aa.cBF;rfl;first|(simp only[bF];omega)|exact ndF rfl|(exact hk))|intro _|refine aa.aR ?_)
    all_goals first|exact⟨rfl,rfl⟩
   |false =>
    rw[hk]at at1
    simp only[Bool.false_eq_true,if_false]at at1 ⊢
    have hh:iN b c=true:=by rcases h with h|h;rw[hk]at h;cases h;exact h
    rw[um hh]at mc
    have hmk':=hmk hh
    repeat' (first|((first|apply aa.q true|apply aa.qq true);rfl;rfl;rfl;rfl;first|exact True.intro|omega|(simp only[tn,Int.reduceToNat];omega)|(simp only[List.length_append]at *;omega)|(exact⟨by omega,by omega⟩))|refine aa.ah [0,1] ( at1) ?_|refine aa.ae (mc) ?_|refine aa.aV (mc) ?_|refine aa.ae (cc) ?_|refine aa.aV (cc) ?_|(apply aa.cBT;rfl;first|(simp only[bT];omega)|(exact hk))|(apply aa.cBF;rfl;first|(simp only[bF];omega)|exact ndF rfl|(exact hk))|intro _|refine aa.aR ?_)
    all_goals first|exact⟨rfl,rfl⟩
end Co
end Go.Proofs.YtbpednchkndocaaGreatDoor.Av
