/- Cells: what stands ahead of a cell's pattern is written. -/
import Derived.Test.YtbpednchkndocaaGreatDoorCo3
import Derived.Test.YtbpednchkndocaaGreatDoorPy7
import Derived.Test.YtbpednchkndocaaGreatDoorPq3
set_option linter.unusedVariables false
set_option linter.unusedSimpArgs false
set_option maxRecDepth 100000
set_option maxHeartbeats 64000000
namespace Go.Proofs.YtbpednchkndocaaGreatDoor.Av
namespace Co
open Go Bt Tc Wr Bl Mb
attribute [local irreducible] aa ACalls
variable {gl:List (Nat×List D)}
noncomputable abbrev gA:List (Nat×List D):=[(0,gl0),(3,gl3),(1,gl1),(2,gl2)]
theorem Kr:∀p∈gsp,p∈gA:=by simp[gsp,gA]
def again (b:Bool):List UInt8:=if b=true then [48] else []
def dU (b:Bool):List UInt8:=again b++fT b 5 0
def ll (c:Cel):Int:=(((fK c).toNat &&& (3:Int).toNat:Nat):Int)
theorem rT (c:Cel):0≤fK c∧fK c≤63:=by
 have:=mD c.e0
 have:=mD c.e1
 have:=mD c.e2
 have:=mD c.e3
 have:=mD c.e4
 have:=mD c.e5
 unfold fK;omega
theorem wT (c:Cel):ll c=fK c%4:=by
 have h:=rT c
 have e:(fK c).toNat &&& (3:Int).toNat=(fK c).toNat%2^2:=Nat.and_two_pow_sub_one_eq_mod _ 2
 unfold ll
 rw[e];omega
def kz (b:Bool) (c:Cel):List UInt8:=if c.skip=true then [49] else again b++fT b c.kind (ll c)
def fI (b:Bool) (c:Cel):List UInt8:=(List.replicate c.stuff.toNat (dU b)).flatten++kz b c
theorem xX:∀b:Bool,l9 b 5 0=true:=by decide +kernel
theorem GI:∀b:Bool,∀k:_root_.Fin 5,∀ch:_root_.Fin 4,(bf k.val||(b&&decide ((k.val:Int)=0∨(k.val:Int)=1)))=true→l9 b k.val ch.val=true:=by decide +kernel
theorem BQ {b:Bool} {c:Cel} (h:jq b c=true):0≤c.kind∧c.kind≤4:=by
 unfold jq bf at h
 simp only[Bool.or_eq_true,Bool.and_eq_true,decide_eq_true_eq]at h
 omega
theorem uR {b:Bool} {c:Cel} (h:jq b c=true):l9 b c.kind (ll c)=true:=by
 have hb:=BQ h
 have hc:=rT c
 rw[wT]
 have:=GI b ⟨c.kind.toNat,by omega⟩ ⟨(fK c%4).toNat,by omega⟩
 simp only at this
 rw[show ((c.kind.toNat:Nat):Int)=c.kind by omega,show (((fK c%4).toNat:Nat):Int)=fK c%4 by omega]at this
 exact this h
theorem q9 (b:Bool):(again b).all bZ=true∧(again b).length≤1:=by cases b<;>decide
theorem zb (b:Bool):(dU b).all bZ=true∧(dU b).length≤10:=by
 obtain⟨_,h2,h3⟩:=qz b 5 0 (xX b)
 obtain⟨a1,a2⟩:=q9 b
 unfold dU
 rw[List.all_append,a1,h3,List.length_append]
 exact⟨rfl,by omega⟩
theorem Lj (r:List UInt8) (h:r.all bZ=true) (n:Nat):((List.replicate n r).flatten).all bZ=true∧((List.replicate n r).flatten).length=n*r.length:=by
 induction n with
 |zero=>simp
 |succ n ih =>
  rw[List.replicate_succ,List.flatten_cons,List.all_append,h,ih.1,List.length_append,ih.2,Nat.succ_mul]
  exact⟨rfl,by omega⟩
theorem F5 (r:List UInt8) (n:Nat):(List.replicate (n+1) r).flatten=(List.replicate n r).flatten++r:=by
 rw[List.replicate_succ',List.flatten_append];simp
theorem Bf {b:Bool} {c:Cel} (h:c.skip=true∨jq b c=true):(kz b c).all bZ=true∧(kz b c).length≤10:=by
 unfold kz
 split
 ·exact⟨rfl,by decide⟩
 ·rename_i hs
  have h':jq b c=true:=by rcases h with h|h;exact absurd h hs;exact h
  obtain⟨_,h2,h3⟩:=qz b c.kind (ll c) (uR h')
  obtain⟨a1,a2⟩:=q9 b
  rw[List.all_append,a1,h3,List.length_append]
  exact⟨rfl,by omega⟩
abbrev Ox (c:Cel):List AV:=[I c.stuff,B c.skip,I c.kind,I c.step,I c.mx,I c.my,I c.d0,I c.d1,I c.d2,I c.d3,I c.d4,I c.d5, .d (evS c.e0), .d (evS c.e1), .d (evS c.e2), .d (evS c.e3), .d (evS c.e4), .d (evS c.e5)]
attribute [local irreducible] cn bO dx fT l9 fK
theorem GY (w:List UInt8) (b:Bool) (c:Cel) (hs:0≤c.stuff∧c.stuff≤64) (h:c.skip=true∨jq b c=true) (hw:w.all bZ=true) (hwl:w.length≤20000000) :
  ACalls (cxg gA) 147 [.ptr 0 0,B b, .d (gz c)] (WO w) (fun r H=>r = .bK []∧H=WO (w++fI b c)):=by
 have m5:=(CX b 5 0).more Kr
 rw[xX b]at m5
 obtain⟨s1,s2⟩:=zb b
 have rk:=fun n=>Lj (dU b) s1 n
 have inv:∀n,n≤64→(w++(List.replicate n (dU b)).flatten).all bZ=true∧(w++(List.replicate n (dU b)).flatten).length≤20000640:=fun n hn=>by
  obtain⟨k1,k2⟩:=rk n
  have:n*(dU b).length≤64*10:=Nat.mul_le_mul hn s2
  rw[List.all_append,hw,k1,List.length_append,k2]
  exact⟨rfl,by omega⟩
 obtain⟨n,hn⟩:=Int.eq_ofNat_of_zero_le hs.1
 obtain⟨i1,i2⟩:=inv n (by omega)
 obtain⟨t1,t2⟩:=Bf h
 have at1:=A9 (gl:=gA) (w++(List.replicate n (dU b)).flatten) (kz b c) i1 t1 (by omega)
 have cc:=(JP (gl:=gA) c)
 have mc:=(CX b c.kind (ll c)).more Kr
 have hml:(fT b 5 0).length≤9:=(qz b 5 0 (xX b)).2.1
 have hfin:w++fI b c=w++(List.replicate n (dU b)).flatten++kz b c:=by
  unfold fI;rw[hn,Int.toNat_natCast,List.append_assoc]
 rw[hfin]
 have e0:w=w++(List.replicate 0 (dU b)).flatten:=by simp
 have hadd:=fun i hi=>A9 (gl:=gA) (w++(List.replicate i (dU b)).flatten) (dU b) (inv i hi).1 s1 (by have:=(inv i hi).2;omega)
 have hsr:dU b=again b++fT b 5 0:=rfl
 have htr:kz b c=if c.skip=true then [49] else again b++fT b c.kind (ll c):=rfl
 have hcd:=rT c
 have hm5:(again b++fT b 5 0).length≤100:=by have:=(q9 b).2;rw[List.length_append];omega
 have hmk:jq b c=true→(again b++fT b c.kind (ll c)).length≤100:=fun hh=>by
  have:=(q9 b).2
  have:=(qz b c.kind (ll c) (uR hh)).2.1
  rw[List.length_append];omega
 rw[htr]at at1 ⊢
 rcases Bool.eq_false_or_eq_true b with hb|hb
 all_goals
  refine ACalls.en Tryz.func147 Tryz.ntmps147 ?_
  repeat (first|refine aa.aD ?_|refine aa.bh true ?_|refine aa.dK true ?_|refine aa.ah (m5) ?_|refine aa.bI (m5) ?_|refine aa.aV ?_|refine aa.ae ?_|refine aa.af ?_|refine aa.ba ?_|(apply aa.cBT;rfl;first|(simp only[bT];omega)|(exact hb))|(apply aa.cBF;rfl;first|(simp only[bF];omega)|exact ndF rfl|(exact hb)))
  refine aa.weak (env':=[(19,I ((0:Nat):Int)),(18,I c.stuff),(7,S (fT b 5 0)),(6,S (again b)),(5, .ptr 2 0),(0, .ptr 0 0),(1,B b)]) ⟨rfl,rfl,rfl,congrArg S (by rw[hb];rfl),rfl,rfl,rfl,trivial⟩ ?_
  refine aa.loop (fun m env H=>∃i:Nat,m=n - i∧i≤n∧env=[(19,I (i:Int)),(18,I c.stuff),(7,S (fT b 5 0)),(6,S (again b)),(5, .ptr 2 0),(0, .ptr 0 0),(1,B b)] ∧
   H=[.cells [.ms 1 (bO (dx (w++(List.replicate i (dU b)).flatten))).length,I (w++(List.replicate i (dU b)).flatten).length], .arr 5 1 (bO (dx (w++(List.replicate i (dU b)).flatten))), .cells (Ox c)]) n
   ⟨0,rfl,by omega,rfl,by rw[←e0]⟩ ?_
  rintro m env H ⟨i,rfl,hi,rfl,rfl⟩
  rcases Nat.lt_or_ge i n with hlt|hge
  ·have ad:=hadd i (by omega)
   rw[List.append_assoc,←F5,hsr]at ad
   repeat' (first|refine aa.aD ?_|((first|apply aa.q true|apply aa.qq true);rfl;rfl;rfl;rfl;first|exact True.intro|omega|(simp only[tn,Int.reduceToNat];omega)|(simp only[List.length_append]at *;omega))|refine aa.az [0,1] ( ad) ?_|refine aa.aV ?_|refine aa.ae ?_|refine aa.af ?_|refine aa.ba ?_|refine aa.aK ?_|refine aa.bD ?_|intro _|refine aa.av ?_|refine aa.aI ?_)
   all_goals first|exact aa.round [(19,I ((i+1:Nat):Int)),(18,I c.stuff),(7,S (fT b 5 0)),(6,S (again b)),(5, .ptr 2 0),(0, .ptr 0 0),(1,B b)] (n - (i+1)) (by omega) ⟨rfl,rfl,rfl,rfl,rfl,rfl,rfl,trivial⟩ ⟨i+1,rfl,hlt,rfl,rfl⟩
  ·obtain rfl:i=n:=by omega
   cases hk:c.skip with
   |true =>
    rw[hk]at at1
    simp only[if_true]at at1 ⊢
    repeat' (first|refine aa.aD ?_|refine aa.bh true ?_|refine aa.dK true ?_|refine aa.az [0,1] ( at1) ?_|refine aa.aV ?_|refine aa.ae ?_|refine aa.af ?_|refine aa.ba ?_|(apply aa.cBT;rfl;first|(simp only[bT];omega)|(exact hk))|(apply aa.cBF;rfl;first|(simp only[bF];omega)|exact ndF rfl|(exact hk))|refine aa.li ?_|intro _|refine aa.av ?_|refine aa.aI ?_)
    all_goals first|exact⟨rfl,rfl⟩
   |false =>
    rw[hk]at at1
    simp only[Bool.false_eq_true,if_false]at at1 ⊢
    have hh:jq b c=true:=by rcases h with h|h;rw[hk]at h;cases h;exact h
    rw[uR hh]at mc
    have hmk':=hmk hh
    repeat' (first|refine aa.aD ?_|((first|apply aa.q true|apply aa.qq true);rfl;rfl;rfl;rfl;first|exact True.intro|omega|(simp only[tn,Int.reduceToNat];omega)|(simp only[List.length_append]at *;omega)|(exact⟨by omega,by omega⟩))|refine aa.az [0,1] ( at1) ?_|refine aa.ah (mc) ?_|refine aa.bI (mc) ?_|refine aa.ah (cc) ?_|refine aa.bI (cc) ?_|refine aa.aV ?_|refine aa.ae ?_|refine aa.af ?_|refine aa.ba ?_|(apply aa.cBT;rfl;first|(simp only[bT];omega)|(exact hk))|(apply aa.cBF;rfl;first|(simp only[bF];omega)|exact ndF rfl|(exact hk))|refine aa.li ?_|intro _|refine aa.av ?_|refine aa.aI ?_)
    all_goals first|exact⟨rfl,rfl⟩
end Co
end Go.Proofs.YtbpednchkndocaaGreatDoor.Av
