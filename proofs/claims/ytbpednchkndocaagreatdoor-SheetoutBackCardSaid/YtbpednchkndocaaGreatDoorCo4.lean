/- Cells: the walk of Right. -/
import Derived.Test.YtbpednchkndocaaGreatDoorCo3
import Derived.Test.YtbpednchkndocaaGreatDoorPq4
import Derived.Test.YtbpednchkndocaaGreatDoorPq3
set_option linter.unusedVariables false
set_option linter.unusedSimpArgs false
set_option maxRecDepth 100000
set_option maxHeartbeats 64000000
namespace Go.Proofs.YtbpednchkndocaaGreatDoor.Av
namespace Co
open Go Bt Tc Wr Bl
attribute [local irreducible] aa ACalls
variable {gl:List (Nat×List D)}
def Dh(b:Bool)(dc:Int)(l:List Ev):Int:=if eB b dc l=true then 0 else 7
def Lv(b:Bool)(dc:Int)(l:List Ev):List UInt8:=if eB b dc l=true then dI b dc l else []
theorem xP(b:Bool)(dc:Int)(l:List Ev):decide (Dh b dc l=0)=eB b dc l:=by
 unfold Dh;cases eB b dc l<;>rfl
theorem qU(b:Bool)(dc:Int)(l:List Ev)(h:qy l):ACalls (cxg gtc) 155 [.ptr 0 0,B b,I dc, .d (.sl 3 (bS l))] (WO []) (fun r H=>r=I (Dh b dc l)∧H=WO (Lv b dc l)):=by
 unfold Dh Lv;cases hm:eB b dc l with
 |true=>exact fQ [] b dc l h.2 hm rfl (by simp)
 |false=>exact H5 [] b dc l h.1 h.2 hm
attribute [local irreducible] bS Dh Lv eB bI bJ sD dw vC kW
theorem C9(b:Bool)(c:Cel)(ok:kG c):ACalls (cxg gtc) 143 [B b, .d (kU c)] [] (fun r H=>r=B (dK b c)∧H=[]):=by
 have bc:=QT (gl:=gtc) c;have vc:=Ik (gl:=gtc) c ok.x ok.y;have ic:=AC (gl:=gtc) c.kind;have sc:=yC (gl:=gtc) c.kind;have tc:=E8 (gl:=gtc) c.step;have p0:=qU (aL c.kind) c.d0 c.e0 ok.e0;have p1:=qU (aL c.kind) c.d1 c.e1 ok.e1;have p2:=qU (aL c.kind) c.d2 c.e2 ok.e2;have p3:=qU (aL c.kind) c.d3 c.e3 ok.e3;have p4:=qU (aL c.kind) c.d4 c.e4 ok.e4;have p5:=qU (aL c.kind) c.d5 c.e5 ok.e5;have wn:=rA (gl:=gtc);unfold dK;by_cases hs:c.stuff<0∨64<c.stuff
 ·rw[if_pos hs];refine ACalls.en Tryz.func143 Tryz.ntmps143 ?_;repeat' (first|refine aa.aF ?_|refine aa.bh true ?_|refine aa.bC ?_|refine aa.ah ?_|refine aa.ae ?_|refine aa.aB ?_|refine aa.ak ?_|refine aa.aM ?_|refine aa.au ?_|refine aa.bg ?_|refine aa.aQ ?_|refine aa.bX ?_|refine aa.fI ?_|refine aa.aC ?_|apply aa.di|apply aa.lpU|intro _|(apply aa.gD;rfl;rfl;rfl)|(apply aa.gS;rfl;rfl;rfl)|(apply aa.kD;rfl)|refine aa.aA ?_)
  all_goals exact Tn
 ·rw[if_neg hs];cases hk:c.skip with
  | true =>
   simp only[if_true];cases b;all_goals
    refine ACalls.en Tryz.func143 Tryz.ntmps143 ?_;repeat' (first|refine aa.aF ?_|refine aa.bh true ?_|refine aa.av (bc) ?_|refine aa.bC ?_|refine aa.ah ?_|refine aa.ae ?_|refine aa.aB ?_|refine aa.ak ?_|refine aa.aM ?_|refine aa.au ?_|refine aa.bg ?_|refine aa.pu ?_|refine aa.pz ?_|(apply aa.gBT;rfl;rfl;rfl;first|(simp only[bT];omega)|(exact hk))|refine aa.aC ?_|apply aa.di|apply aa.lpU|intro _|(apply aa.gD;rfl;rfl;rfl)|(apply aa.gS;rfl;rfl;rfl)|(apply aa.kD;rfl)|refine aa.aA ?_)
    all_goals exact Tn
  | false =>
   simp only[Bool.false_eq_true,if_false];unfold gL qD mW;cases hI:aL c.kind with
   |true =>
    rw[hI]at ic p0 p1 p2 p3 p4 p5;refine ACalls.en Tryz.func143 Tryz.ntmps143 ?_;repeat' (first|refine aa.aF ?_|(refine aa.oP (hs:=[1,2,4,5,6,7,8,9,10,11]) (pre:=[0,3]) (n:=12) ?_;apply PGo.call (wn);rfl;rfl;rfl;rfl;rfl;rfl;rfl;rfl;simp only[ny,nh,Nat.reduceAdd,Nat.reduceSub];apply PGo.call (ic);rfl;rfl;rfl;rfl;rfl;rfl;rfl;rfl;simp only[ny,nh,Nat.reduceAdd,Nat.reduceSub];apply PGo.nil)|refine aa.bh true ?_|refine aa.aj [1,2] (p0) ?_|refine aa.aj [3,4] (p1) ?_|refine aa.aj [5,6] (p2) ?_|refine aa.aj [7,8] (p3) ?_|refine aa.aj [9,10] (p4) ?_|refine aa.aj [11,12] (p5) ?_|refine aa.av (vc) ?_|refine aa.av (ic) ?_|refine aa.av (sc) ?_|refine aa.av (tc) ?_|refine aa.bC ?_|refine aa.ah ?_|refine aa.ae ?_|refine aa.aB ?_|refine aa.ak ?_|refine aa.aM ?_|refine aa.au ?_|refine aa.bg ?_|refine aa.pu ?_|refine aa.pz ?_|(apply aa.gBT;rfl;rfl;rfl;first|(simp only[bT];omega)|(exact hk))|refine aa.aC ?_|apply aa.di|apply aa.lpU|intro _|(apply aa.gD;rfl;rfl;rfl)|(apply aa.gS;rfl;rfl;rfl)|(apply aa.kD;rfl)|refine aa.aA ?_)
    all_goals first|exact⟨congrArg B (by simp_all [xP]),rfl⟩|omega
   | false =>
    rw[hI]at ic p0 p1 p2 p3 p4 p5;cases b with
    |false =>
     refine ACalls.en Tryz.func143 Tryz.ntmps143 ?_;repeat' (first|refine aa.aF ?_|refine aa.bh true ?_|refine aa.av (vc) ?_|refine aa.av (ic) ?_|refine aa.av (sc) ?_|refine aa.av (tc) ?_|refine aa.bC ?_|refine aa.ah ?_|refine aa.ae ?_|refine aa.aB ?_|refine aa.ak ?_|refine aa.aM ?_|refine aa.au ?_|refine aa.bg ?_|refine aa.pu ?_|refine aa.pz ?_|(apply aa.gBT;rfl;rfl;rfl;first|(simp only[bT];omega)|(exact hk))|refine aa.aC ?_|apply aa.di|apply aa.lpU|intro _|(apply aa.gD;rfl;rfl;rfl)|(apply aa.gS;rfl;rfl;rfl)|(apply aa.kD;rfl)|refine aa.aA ?_)
     all_goals first|exact⟨congrArg B (by simp_all),rfl⟩|omega
    | true =>
     by_cases hkk:c.kind=0∨c.kind=1
     ·rw[decide_eq_true hkk];refine ACalls.en Tryz.func143 Tryz.ntmps143 ?_;repeat' (first|refine aa.aF ?_|(refine aa.oP (hs:=[1,2,4,5,6,7,8,9,10,11]) (pre:=[0,3]) (n:=12) ?_;apply PGo.call (wn);rfl;rfl;rfl;rfl;rfl;rfl;rfl;rfl;simp only[ny,nh,Nat.reduceAdd,Nat.reduceSub];apply PGo.call (ic);rfl;rfl;rfl;rfl;rfl;rfl;rfl;rfl;simp only[ny,nh,Nat.reduceAdd,Nat.reduceSub];apply PGo.nil)|refine aa.bh true ?_|refine aa.aj [1,2] (p0) ?_|refine aa.aj [3,4] (p1) ?_|refine aa.aj [5,6] (p2) ?_|refine aa.aj [7,8] (p3) ?_|refine aa.aj [9,10] (p4) ?_|refine aa.aj [11,12] (p5) ?_|refine aa.av (vc) ?_|refine aa.av (ic) ?_|refine aa.av (sc) ?_|refine aa.av (tc) ?_|refine aa.bC ?_|refine aa.ah ?_|refine aa.ae ?_|refine aa.aB ?_|refine aa.ak ?_|refine aa.aM ?_|refine aa.au ?_|refine aa.bg ?_|refine aa.pu ?_|refine aa.pz ?_|(apply aa.gBT;rfl;rfl;rfl;first|(simp only[bT];omega)|(exact hk))|refine aa.aC ?_|apply aa.di|apply aa.lpU|intro _|(apply aa.gD;rfl;rfl;rfl)|(apply aa.gS;rfl;rfl;rfl)|(apply aa.kD;rfl)|refine aa.aA ?_)
      all_goals first|omega|exact⟨congrArg B (by simp_all [xP]),rfl⟩
     ·rw[decide_eq_false hkk];have hkk0:¬c.kind=0:=fun h=>hkk (.inl h)
      have hkk1:¬c.kind=1:=fun h=>hkk (.inr h)
      refine ACalls.en Tryz.func143 Tryz.ntmps143 ?_;repeat' (first|refine aa.aF ?_|(refine aa.oP (hs:=[1,2,4,5,6,7,8,9,10,11]) (pre:=[0,3]) (n:=12) ?_;apply PGo.call (wn);rfl;rfl;rfl;rfl;rfl;rfl;rfl;rfl;simp only[ny,nh,Nat.reduceAdd,Nat.reduceSub];apply PGo.call (ic);rfl;rfl;rfl;rfl;rfl;rfl;rfl;rfl;simp only[ny,nh,Nat.reduceAdd,Nat.reduceSub];apply PGo.nil)|refine aa.bh true ?_|refine aa.aj [1,2] (p0) ?_|refine aa.aj [3,4] (p1) ?_|refine aa.aj [5,6] (p2) ?_|refine aa.aj [7,8] (p3) ?_|refine aa.aj [9,10] (p4) ?_|refine aa.aj [11,12] (p5) ?_|refine aa.av (vc) ?_|refine aa.av (ic) ?_|refine aa.av (sc) ?_|refine aa.av (tc) ?_|refine aa.bC ?_|refine aa.ah ?_|refine aa.ae ?_|refine aa.aB ?_|refine aa.ak ?_|refine aa.aM ?_|refine aa.au ?_|refine aa.bg ?_|refine aa.pu ?_|refine aa.pz ?_|(apply aa.gBT;rfl;rfl;rfl;first|(simp only[bT];omega)|(exact hk))|refine aa.aC ?_|apply aa.di|apply aa.lpU|intro _|(apply aa.gD;rfl;rfl;rfl)|(apply aa.gS;rfl;rfl;rfl)|(apply aa.kD;rfl)|refine aa.aA ?_)
      all_goals first|exact⟨congrArg B (by simp_all [xP]),rfl⟩|omega
end Co
namespace Co
open Go Bt Tc Wr Bl Mb
attribute [local irreducible] aa ACalls
variable {gl:List (Nat×List D)}
noncomputable abbrev gA:List (Nat×List D):=[(0,gl0),(3,gl3),(1,gl1),(2,gl2)]
theorem OV:∀p∈gsp,p∈gA:=by simp[gsp,gA]
theorem ia:∀p∈gtc,p∈gA:=by simp[gtc,gA]
theorem FZ:∀p∈[(0,gl0)],p∈gA:=by simp[gA]
def again(b:Bool):List UInt8:=if b=true then [48] else []
def cA(b:Bool):List UInt8:=again b++eD b 5 0
def kE(c:Cel):Int:=(((cN c).toNat &&& (3:Int).toNat:Nat):Int)
theorem kS(c:Cel):0≤cN c∧cN c≤63:=by
 have:=iE c.e0;have:=iE c.e1;have:=iE c.e2;have:=iE c.e3;have:=iE c.e4;have:=iE c.e5;unfold cN;omega
theorem qR(c:Cel):kE c=cN c%4:=by
 have h:=kS c;have e:(cN c).toNat &&& (3:Int).toNat=(cN c).toNat%2^2:=Nat.and_two_pow_sub_one_eq_mod _ 2;unfold kE;rw[e];omega
def jJ(b:Bool)(c:Cel):List UInt8:=if c.skip=true then [49] else again b++eD b c.kind (kE c)
def bY(b:Bool)(c:Cel):List UInt8:=(List.replicate c.stuff.toNat (cA b)).flatten++jJ b c
theorem tj:∀b:Bool,lu b 5 0=true:=by decide +kernel
theorem J2:∀b:Bool,∀k:_root_.Fin 5,∀ch:_root_.Fin 4,(aL k.val||(b&&decide ((k.val:Int)=0∨(k.val:Int)=1)))=true→lu b k.val ch.val=true:=by decide +kernel
theorem xq{b:Bool}{c:Cel}(h:gL b c=true):0≤c.kind∧c.kind≤4:=by
 unfold gL aL at h;simp only[Bool.or_eq_true,Bool.and_eq_true,decide_eq_true_eq]at h;omega
theorem qc{b:Bool}{c:Cel}(h:gL b c=true):lu b c.kind (kE c)=true:=by
 have hb:=xq h;have hc:=kS c;rw[qR];have:=J2 b ⟨c.kind.toNat,by omega⟩ ⟨(cN c%4).toNat,by omega⟩;simp only at this;rw[show ((c.kind.toNat:Nat):Int)=c.kind by omega,show (((cN c%4).toNat:Nat):Int)=cN c%4 by omega]at this;exact this h
theorem uk(b:Bool):(again b).all bB=true∧(again b).length≤1:=by cases b<;>decide
theorem vk(b:Bool):(cA b).all bB=true∧(cA b).length≤10:=by
 obtain⟨_,h2,h3⟩:=p9 b 5 0 (tj b);obtain⟨a1,a2⟩:=uk b;unfold cA;rw[List.all_append,a1,h3,List.length_append];exact⟨rfl,by omega⟩
theorem Jo(r:List UInt8)(h:r.all bB=true)(n:Nat):((List.replicate n r).flatten).all bB=true∧((List.replicate n r).flatten).length=n*r.length:=by
 induction n with
 |zero=>simp
 |succ n ih =>
  rw[List.replicate_succ,List.flatten_cons,List.all_append,h,ih.1,List.length_append,ih.2,Nat.succ_mul];exact⟨rfl,by omega⟩
theorem Jn(r:List UInt8)(n:Nat):(List.replicate (n+1) r).flatten=(List.replicate n r).flatten++r:=by
 rw[List.replicate_succ',List.flatten_append];simp
theorem wJ{b:Bool}{c:Cel}(h:c.skip=true∨gL b c=true):(jJ b c).all bB=true∧(jJ b c).length≤10:=by
 unfold jJ;split
 ·exact⟨rfl,by decide⟩
 ·rename_i hs;have h':gL b c=true:=by rcases h with h|h;exact absurd h hs;exact h
  obtain⟨_,h2,h3⟩:=p9 b c.kind (kE c) (qc h');obtain⟨a1,a2⟩:=uk b;rw[List.all_append,a1,h3,List.length_append];exact⟨rfl,by omega⟩
abbrev Tj(c:Cel):List AV:=[I c.stuff,B c.skip,I c.kind,I c.step,I c.mx,I c.my,I c.d0,I c.d1,I c.d2,I c.d3,I c.d4,I c.d5, .d (evS c.e0), .d (evS c.e1), .d (evS c.e2), .d (evS c.e3), .d (evS c.e4), .d (evS c.e5)]
attribute [local irreducible] bS bI bJ eD lu cN
theorem Et(w:List UInt8)(b:Bool)(c:Cel)(hs:0≤c.stuff∧c.stuff≤64)(h:c.skip=true∨gL b c=true)(hw:w.all bB=true)(hwl:w.length≤20000000):
  ACalls (cxg gA) 147 [.ptr 0 0,B b, .d (kU c)] (WO w) (fun r H=>r = .cH []∧H=WO (w++bY b c)):=by
 have m5:=(FN b 5 0).more OV;rw[tj b]at m5;obtain⟨s1,s2⟩:=vk b;have rk:=fun n=>Jo (cA b) s1 n
 have inv:∀n,n≤64→(w++(List.replicate n (cA b)).flatten).all bB=true∧(w++(List.replicate n (cA b)).flatten).length≤20000640:=fun n hn=>by
  obtain⟨k1,k2⟩:=rk n;have:n*(cA b).length≤64*10:=Nat.mul_le_mul hn s2;rw[List.all_append,hw,k1,List.length_append,k2];exact⟨rfl,by omega⟩
 obtain⟨n,hn⟩:=Int.eq_ofNat_of_zero_le hs.1;obtain⟨i1,i2⟩:=inv n (by omega);obtain⟨t1,t2⟩:=wJ h;have at1:=rC (gl:=gA) (w++(List.replicate n (cA b)).flatten) (jJ b c) i1 t1 (by omega);have cc:=(Gp (gl:=gA) c);have mc:=(FN b c.kind (kE c)).more OV;have hml:(eD b 5 0).length≤9:=(p9 b 5 0 (tj b)).2.1;have hfin:w++bY b c=w++(List.replicate n (cA b)).flatten++jJ b c:=by
  unfold bY;rw[hn,Int.toNat_natCast,List.append_assoc]
 rw[hfin];have e0:w=w++(List.replicate 0 (cA b)).flatten:=by simp
 have hadd:=fun i hi=>rC (gl:=gA) (w++(List.replicate i (cA b)).flatten) (cA b) (inv i hi).1 s1 (by have:=(inv i hi).2;omega)
 have hsr:cA b=again b++eD b 5 0:=rfl;have htr:jJ b c=if c.skip=true then [49] else again b++eD b c.kind (kE c):=rfl
 have hcd:=kS c;have hm5:(again b++eD b 5 0).length≤100:=by have:=(uk b).2;rw[List.length_append];omega
 have hmk:gL b c=true→(again b++eD b c.kind (kE c)).length≤100:=fun hh=>by
  have:=(uk b).2;have:=(p9 b c.kind (kE c) (qc hh)).2.1;rw[List.length_append];omega
 rw[htr]at at1 ⊢;rcases Bool.eq_false_or_eq_true b with hb|hb;all_goals
  refine ACalls.en Tryz.func147 Tryz.ntmps147 ?_;repeat (first|refine aa.aF ?_|refine aa.bh true ?_|refine aa.eP true ?_|refine aa.av (m5) ?_|refine aa.aR (m5) ?_|refine aa.aV ?_|refine aa.ah ?_|refine aa.ae ?_|refine aa.aM ?_|(apply aa.cBT;rfl;first|(simp only[bT];omega)|(exact hb))|(apply aa.cBF;rfl;first|(simp only[bF];omega)|exact ndF rfl|(exact hb)))
  refine aa.weak (env':=[(19,I ((0:Nat):Int)),(18,I c.stuff),(7,S (eD b 5 0)),(6,S (again b)),(5, .ptr 2 0),(0, .ptr 0 0),(1,B b)]) ⟨rfl,rfl,rfl,congrArg S (by rw[hb];rfl),rfl,rfl,rfl,trivial⟩ ?_
  refine aa.loop (fun m env H=>∃i:Nat,m=n-i∧i≤n∧env=[(19,I (i:Int)),(18,I c.stuff),(7,S (eD b 5 0)),(6,S (again b)),(5, .ptr 2 0),(0, .ptr 0 0),(1,B b)] ∧
   H=[.cells [.ms 1 (bI (bJ (w++(List.replicate i (cA b)).flatten))).length,I (w++(List.replicate i (cA b)).flatten).length], .arr 5 1 (bI (bJ (w++(List.replicate i (cA b)).flatten))), .cells (Tj c)]) n
   ⟨0,rfl,by omega,rfl,by rw[←e0]⟩ ?_
  rintro m env H ⟨i,rfl,hi,rfl,rfl⟩;rcases Nat.lt_or_ge i n with hlt|hge
  ·have ad:=hadd i (by omega);rw[List.append_assoc,←Jn,hsr]at ad;repeat' (first|refine aa.aF ?_|((first|apply aa.q true|apply aa.qq true);rfl;rfl;rfl;rfl;first|exact True.intro|omega|(simp only[tn,Int.reduceToNat];omega)|(simp only[List.length_append]at *;omega))|refine aa.aj [0,1] (ad) ?_|refine aa.aV ?_|refine aa.ah ?_|refine aa.ae ?_|refine aa.aM ?_|refine aa.aQ ?_|refine aa.bX ?_|intro _|refine aa.aA ?_|refine aa.aJ ?_)
   all_goals first|exact aa.round [(19,I ((i+1:Nat):Int)),(18,I c.stuff),(7,S (eD b 5 0)),(6,S (again b)),(5, .ptr 2 0),(0, .ptr 0 0),(1,B b)] (n-(i+1)) (by omega) ⟨rfl,rfl,rfl,rfl,rfl,rfl,rfl,trivial⟩ ⟨i+1,rfl,hlt,rfl,rfl⟩
  ·obtain rfl:i=n:=by omega
   cases hk:c.skip with
   |true =>
    rw[hk]at at1;simp only[if_true]at at1 ⊢;repeat' (first|refine aa.aF ?_|refine aa.bh true ?_|refine aa.eP true ?_|refine aa.aj [0,1] (at1) ?_|refine aa.aV ?_|refine aa.ah ?_|refine aa.ae ?_|refine aa.aM ?_|refine aa.pu ?_|refine aa.pz ?_|refine aa.lL ?_|intro _|refine aa.aA ?_|refine aa.aJ ?_)
    all_goals exact Tp
   |false =>
    rw[hk]at at1;simp only[Bool.false_eq_true,if_false]at at1 ⊢;have hh:gL b c=true:=by rcases h with h|h;rw[hk]at h;cases h;exact h
    rw[qc hh]at mc;have hmk':=hmk hh;repeat' (first|refine aa.aF ?_|((first|apply aa.q true|apply aa.qq true);rfl;rfl;rfl;rfl;first|exact True.intro|omega|(simp only[tn,Int.reduceToNat];omega)|(simp only[List.length_append]at *;omega)|(exact⟨by omega,by omega⟩))|refine aa.aj [0,1] (at1) ?_|refine aa.av (mc) ?_|refine aa.aR (mc) ?_|refine aa.av (cc) ?_|refine aa.aR (cc) ?_|refine aa.aV ?_|refine aa.ah ?_|refine aa.ae ?_|refine aa.aM ?_|refine aa.pu ?_|refine aa.pz ?_|refine aa.lL ?_|intro _|refine aa.aA ?_|refine aa.aJ ?_)
    all_goals exact Tp
end Co
end Go.Proofs.YtbpednchkndocaaGreatDoor.Av
