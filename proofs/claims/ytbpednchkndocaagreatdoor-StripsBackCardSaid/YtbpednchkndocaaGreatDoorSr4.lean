/- Strips are read: strips.follows, sheet, end, Parse. -/
import Derived.Test.YtbpednchkndocaaGreatDoorSr0
import Derived.Test.YtbpednchkndocaaGreatDoorPy9
set_option linter.unusedVariables false
set_option linter.unusedSimpArgs false
set_option maxRecDepth 100000
set_option maxHeartbeats 64000000
namespace Go.Proofs.YtbpednchkndocaaGreatDoor.Av
namespace Sr
open Go Bt Sh Co Ci Tc Si
attribute [local irreducible] aa ACalls aW aK bP aT cK cF cG
attribute [local irreducible] Tc.bS suD bD rsD dS aG Si.shX
theorem zg{gl:List (Nat×List D)}(l:List Sx)(h:Hd)(rs:List D)(z:Int)(hl:l.length≤1000000):ACalls (cxg gl) 124 [.d (.sl 8 (dS l)), .d (shD h rs z)] [] (fun r H=>r=B (nY l h)∧H=[]):=by
 have hn:=ju l;obtain⟨a,b,c,d,e,f⟩:=h;unfold nY;cases d with
 |false =>
  refine ACalls.en Tryz.func124 Tryz.ntmps124 ?_;repeat' (first|refine aa.aF ?_|refine aa.q'd true ?_|refine aa.PD true ?_|refine aa.aV ?_|refine aa.aM ?_|refine aa.bw ?_|refine aa.BR ?_|refine aa.BS ?_|refine aa.iG ?_|intro _|refine aa.aA ?_)
  all_goals exact Tn
 | true =>
  rcases Nat.eq_zero_or_pos l.length with h0|h0
  ·have:l[l.length-1]?=none:=List.getElem?_eq_none (by omega);rw[this];refine ACalls.en Tryz.func124 Tryz.ntmps124 ?_;repeat' (first|refine aa.aF ?_|refine aa.q'd true ?_|refine aa.PD true ?_|refine aa.aV ?_|refine aa.aM ?_|refine aa.bw ?_|refine aa.BR ?_|refine aa.BS ?_|refine aa.iG ?_|intro _|refine aa.aA ?_)
   all_goals exact Tn
  ·have hx:l[l.length-1]?=some l[l.length-1]:=List.getElem?_eq_getElem (by omega);generalize l[l.length-1]=x at *;have g1:(dS l).getD (((dS l).length:Int)-1).toNat .top=sxD x:=by
    rw[←nI hx,hn];congr 1;omega
   rw[hx];refine ACalls.en Tryz.func124 Tryz.ntmps124 ?_;repeat' (first|refine aa.aF ?_|(apply aa.yj;(apply bR;(iterate 7 rfl);(first|omega|(rw[hn];omega));exact g1);rfl;rfl;rfl)|refine aa.q'd true ?_|refine aa.PD true ?_|refine aa.aV ?_|refine aa.aM ?_|refine aa.bw ?_|refine aa.BR ?_|refine aa.BS ?_|refine aa.iG ?_|intro _|refine aa.aA ?_)
   all_goals exact Tn
def nxE(l:List Sx)(x:Hd×List Rw×Nat×Int×Nat):Int :=
 if x.2.2.2.1≠0 then x.2.2.2.1 else if l.length=64 then 13 else if nY l x.1=true then 0 else 11
theorem Mr(s:List UInt8)(p:Nat)(l:List Sx)(hs:s.length≤1000000)(hp:p≤8*s.length)(hl:l.length≤1000):
  ACalls (cxg gB) 117 [.ptr 0 0, .d (.sl 8 (dS l))] [Rd s (p:Int)]
   (fun r H=>r = .cH [.d (shD (Si.shX s p).1 (rsD (Si.shX s p).2.1) ((Si.shX s p).2.2.1:Nat)),I (nxE l (Si.shX s p))]∧H=[Rd s ((Si.shX s p).2.2.2.2:Int)]):=by
 have tk:=wQ s p hs hp;have hn:=ju l;unfold nxE;generalize Si.shX s p=X at *;obtain⟨h,rs,z,e,u⟩:=X;simp only at tk ⊢;have fo:=zg (gl:=gB) l h (rsD rs) ((z:Nat):Int) (by omega);by_cases he:e=0
 ·subst he;by_cases h64:l.length=64
  ·rw[if_neg (by decide),if_pos h64];refine ACalls.en Tryz.func117 Tryz.ntmps117 ?_;repeat' (first|refine aa.aF ?_|refine aa.q'd true ?_|refine aa.aj [0] (tk) ?_|refine aa.ah ?_|refine aa.ae ?_|refine aa.aB ?_|refine aa.ak ?_|refine aa.aH ?_|refine aa.aD ?_|refine aa.aQ ?_|intro _|refine aa.aA ?_)
   all_goals exact Tn
  ·rw[if_neg (by decide),if_neg h64];cases hF:nY l h with
   |true =>
    rw[hF]at fo;rw[if_pos rfl];refine ACalls.en Tryz.func117 Tryz.ntmps117 ?_;repeat' (first|refine aa.aF ?_|refine aa.q'd true ?_|refine aa.aj [0] (tk) ?_|refine aa.av (fo) ?_|refine aa.ah ?_|refine aa.ae ?_|refine aa.aB ?_|refine aa.ak ?_|refine aa.aH ?_|refine aa.aD ?_|refine aa.aQ ?_|intro _|refine aa.aA ?_)
    all_goals exact Tn
   |false =>
    rw[hF]at fo;rw[if_neg (by decide)];refine ACalls.en Tryz.func117 Tryz.ntmps117 ?_;repeat' (first|refine aa.aF ?_|refine aa.q'd true ?_|refine aa.aj [0] (tk) ?_|refine aa.av (fo) ?_|refine aa.ah ?_|refine aa.ae ?_|refine aa.aB ?_|refine aa.ak ?_|refine aa.aH ?_|refine aa.aD ?_|refine aa.aQ ?_|intro _|refine aa.aA ?_)
    all_goals exact Tn
 ·rw[if_pos he];refine ACalls.en Tryz.func117 Tryz.ntmps117 ?_;repeat' (first|refine aa.aF ?_|refine aa.q'd true ?_|refine aa.aj [0] (tk) ?_|refine aa.ah ?_|refine aa.ae ?_|refine aa.aB ?_|refine aa.ak ?_|refine aa.aH ?_|refine aa.aD ?_|refine aa.aQ ?_|intro _|refine aa.aA ?_)
  all_goals exact Tn
def enE(s:List UInt8)(p:Nat):Int:=if p+24=8*s.length∧Mk.gQ s (p+22)=true then 0 else 5
def enP(s:List UInt8)(p:Nat):Nat:=if Mk.gQ s (p+22)=true then p+24 else p+22
theorem Sj(s:List UInt8)(p:Nat)(hs:s.length≤1000000)(hp:p+22≤8*s.length)(h8:p%8=0):
  ACalls (cxg gB) 116 [.ptr 0 0] [Rd s (p:Int)] (fun r H=>r=I (enE s p)∧H=[Rd s (enP s p:Int)]):=by
 have tk:=jg (gl:=gB) s p 22 (by omega) (by omega) (by omega);unfold pkN tkN at tk;rw[if_neg (by omega)]at tk;rw[if_neg (by omega)]at tk;have fl:=Mk.AU (gl:=gB) s (p+22) (by omega) hp;have hpd:Mk.bE (p+22)=2:=by unfold Mk.bE;omega
 rw[hpd]at fl;unfold enE enP;cases hk:Mk.gQ s (p+22)with
 | true =>
  rw[hk]at fl;simp only[if_true]at fl;have lf:=Mk.Az (gl:=gB) s (p+22+2) (by omega) (by omega);by_cases hL:p+24=8*s.length
  ·rw[if_pos ⟨hL,rfl⟩,if_pos rfl];refine ACalls.en Tryz.func116 Tryz.ntmps116 ?_;repeat' (first|refine aa.aF ?_|refine aa.bh true ?_|refine aa.aj [0] (tk) ?_|refine aa.aj [0] (fl) ?_|refine aa.aj [0] (lf) ?_|refine aa.ah ?_|refine aa.ae ?_|refine aa.ak ?_|refine aa.au ?_|refine aa.bg ?_|refine aa.aC ?_|intro _|refine aa.aA ?_)
   all_goals exact Tn
  ·rw[if_neg (fun h=>hL h.1),if_pos rfl];refine ACalls.en Tryz.func116 Tryz.ntmps116 ?_;repeat' (first|refine aa.aF ?_|refine aa.bh true ?_|refine aa.aj [0] (tk) ?_|refine aa.aj [0] (fl) ?_|refine aa.aj [0] (lf) ?_|refine aa.ah ?_|refine aa.ae ?_|refine aa.ak ?_|refine aa.au ?_|refine aa.bg ?_|refine aa.aC ?_|intro _|refine aa.aA ?_)
   all_goals exact Tn
 |false =>
  rw[hk]at fl;simp only[Bool.false_eq_true,if_false]at fl;rw[if_neg (fun h=>by simp at h),if_neg (by decide)];refine ACalls.en Tryz.func116 Tryz.ntmps116 ?_;repeat' (first|refine aa.aF ?_|refine aa.bh true ?_|refine aa.aj [0] (tk) ?_|refine aa.aj [0] (fl) ?_|refine aa.ah ?_|refine aa.ae ?_|refine aa.ak ?_|refine aa.au ?_|refine aa.bg ?_|refine aa.aC ?_|intro _|refine aa.aA ?_)
  all_goals exact Tn
theorem wP:bW (.agg [.aU, .bool false]) (stD [] false):=by
 have s0:dS []=[]:=by unfold dS;rfl
 show bW _ (.agg [.sl 8 (dS []), .bool false]);rw[s0];refine bW.agg rfl (by simp[D.one]) fun i c d hc hd=>?_
 match i,hc,hd with
 |0,hc,hd=>cases hc;cases hd;exact bW.aU 8
 |1,hc,hd=>cases hc;cases hd;exact bW.refl _
 |i+2,hc,hd=>simp at hc
abbrev PX(s:List UInt8)(l:List Sx)(p:Nat)(e:Bool):List aN:=[.cells [.d .aU,B false], .cells [.own 8 (dS l) 3,B e],Rd s (p:Int), .front 30 8 (dS l).length]
theorem IE(l:List Sx)(h:Hd)(rs:List Rw)(z:Int):dS (l++[⟨h,rs,z⟩])=dS l++[shD h (rsD rs) z]:=by simp[dS]
structure PrI(s:List UInt8)(P:Pr)(l:List Sx)(p:Nat)(a:Nat)(e:Int):Prop where
 n:l.length≤65
 hp:p≤8*s.length
 ok:e=0→P=prX s (66-l.length) l p∧l.length≤64∧p%8=0
 no:e≠0→P=⟨[],false,a,e⟩
theorem QW{s:List UInt8}{p:Nat}{n:Int}(h:Mk.atB s p=(n,0)):p+22≤8*s.length:=by
 unfold Mk.atB at h;split at h
 ·cases h
 ·omega
theorem PrI.next{s:List UInt8}{P:Pr}{l:List Sx}{p n:Nat}(hs:s.length≤262144)(hp:p≤8*s.length)(h64:l.length≤64)(hn:66-l.length=n+1)(hP:P=prN s l p (Si.shX s p) (prX s n)):
  PrI s P (l++[⟨(Si.shX s p).1,(Si.shX s p).2.1,((Si.shX s p).2.2.1:Nat)⟩]) (Si.shX s p).2.2.2.2 (p/8) (nxE l (Si.shX s p)):=by
 have so:=zS (s:=s) (p:=p) hs hp;have se:=Po (s:=s) (p:=p);have hl:(l++[(⟨(Si.shX s p).1,(Si.shX s p).2.1,((Si.shX s p).2.2.1:Nat)⟩:Sx)]).length=l.length+1:=by rw[List.length_append];rfl
 unfold prN at hP;unfold nxE;refine⟨by rw[hl];omega,?_,fun he=>?_,fun he=>?_⟩
 ·by_cases h0:(Si.shX s p).2.2.2.1=0
  ·exact (so h0).2.2.1
  ·rw[se h0];exact hp
 ·rw[hl];by_cases h0:(Si.shX s p).2.2.2.1≠0
  ·rw[if_pos h0]at he;exact absurd he h0
  ·rw[if_neg h0]at he hP;by_cases h1:l.length=64
   ·rw[if_pos h1]at he;cases he
   ·rw[if_neg h1]at he;rw[if_neg (by omega)]at hP;by_cases h2:nY l (Si.shX s p).1=true
    ·rw[if_pos h2]at hP;rw[show 66-(l.length+1)=n by omega];exact⟨hP,by omega,(so (by simpa using h0)).2.2.2.1⟩
    ·rw[if_neg h2]at he;cases he
 ·by_cases h0:(Si.shX s p).2.2.2.1≠0
  ·rw[if_pos h0]at hP ⊢;exact hP
  ·rw[if_neg h0]at he hP ⊢;by_cases h1:l.length=64
   ·rw[if_pos h1];rw[if_pos (by omega)]at hP;exact hP
   ·rw[if_neg h1]at he ⊢;rw[if_neg (by omega)]at hP;by_cases h2:nY l (Si.shX s p).1=true
    ·rw[if_pos h2]at he;exact absurd rfl he
    ·rw[if_neg h2]at hP ⊢;exact hP
attribute [local irreducible] prX nxE enE enP
theorem vN(s:List UInt8)(hs:s.length≤262144):
  ACalls (cxg gB) 46 [S s] [] (fun r H=>r = .cH [.d (stD (prS s).l (prS s).e),I ((prS s).at_:Int),I (prS s).err]∧H=[]):=by
 have nw:=Cv (gl:=gB) s;obtain⟨P,hP⟩:∃P,P=prS s:=⟨_,rfl⟩;rw[←hP];have s0:dS []=[]:=by unfold dS;rfl
 refine ACalls.en Tryz.func46 Tryz.ntmps46 ?_;repeat (first|refine aa.aF ?_|refine aa.bh true ?_|refine aa.aj [] (nw) ?_|refine aa.ah ?_|refine aa.ae ?_|refine aa.aB ?_|refine aa.ak ?_|refine aa.aH ?_|refine aa.aD ?_|refine aa.bG ?_|refine aa.au ?_|refine aa.cf ?_|refine aa.bg ?_|refine aa.aQ ?_|refine aa.aC ?_|refine aa.aX ?_|refine aa.Fc ?_|apply aa.label)
 (apply aa.rT 1 0 30 8;rfl;rfl;simp only[List.set_cons_zero,List.set_cons_succ,List.length_cons,List.length_nil,Nat.reduceAdd,List.cons_append,List.nil_append])
 (apply aa.qO 1 0;rfl;rfl;rfl;rfl;simp only[List.set_cons_zero,List.set_cons_succ])
 refine aa.weak (env':=[(8,I 0),(7,I ((0:Nat):Int)),(6, .ptr 2 0),(5, .ptr 1 0),(2, .ptr 0 0),(0,S s)]) ⟨rfl,rfl,rfl,rfl,rfl,rfl,trivial⟩ ?_
 refine aa.loop (fun m env H=>∃(l:List Sx) (p a:Nat) (e:Int),m=67-l.length∧PrI s P l p a e ∧
   env=[(8,I e),(7,I (a:Int)),(6, .ptr 2 0),(5, .ptr 1 0),(2, .ptr 0 0),(0,S s)]∧H=PX s l p false) 67
  ⟨[],0,0,0,rfl,⟨by decide,by omega,fun _=>⟨hP,by decide,rfl⟩,fun h=>absurd rfl h⟩,rfl,by unfold PX;rw[s0];rfl⟩ ?_
 rintro m env H ⟨l,p,a,e,rfl,iv,rfl,rfl⟩;have hn:=ju l;have hl:=iv.n;have hp:=iv.hp;unfold PX;by_cases he:e=0
 ·subst he;obtain⟨hP,h64,h8⟩:=iv.ok rfl;obtain⟨n,hn1⟩:∃n,66-l.length=n+1:=⟨65-l.length,by omega⟩;rw[hn1,prX]at hP;have a0:=ui (gl:=gB) s p;have ma:=Mk.CG (gl:=gB) s p (by omega) hp;have lf:=Mk.Az (gl:=gB) s p (by omega) hp;have e8:((p/8:Nat):Int)=(p:Int)/8:=by omega
  by_cases h1:p=8*s.length
  ·rw[if_pos h1]at hP;by_cases h2:l.length=0
   ·rw[if_pos h2]at hP;subst hP;simp only;rw[e8];generalize Mk.atB s p=A at *;obtain⟨v,f⟩:=A;repeat' (first|refine aa.aF ?_|refine aa.q'd true ?_|refine aa.aj [2] (a0) ?_|refine aa.aj [2] (lf) ?_|refine aa.av (ma) ?_|refine aa.ah ?_|refine aa.ae ?_|refine aa.aB ?_|refine aa.ak ?_|refine aa.aH ?_|refine aa.aD ?_|refine aa.bG ?_|refine aa.au ?_|refine aa.cf ?_|refine aa.bg ?_|refine aa.aQ ?_|refine aa.aC ?_|refine aa.aX ?_|(apply aa.nP (.cH [.d (stD [] false),I ((p:Int)/8),I 2]);rfl;exact cJ.cH ⟨cJ.d wP,cJ.refl _,cJ.refl _,trivial⟩;rfl;rfl;rfl)|intro _|(apply aa.cZ ;rfl)|(apply aa.gD;rfl;rfl;rfl)|refine aa.aA ?_|refine aa.aJ ?_)
    all_goals exact Tn
   ·rw[if_neg h2]at hP;subst hP;simp only;generalize Mk.atB s p=A at *;obtain⟨v,f⟩:=A;repeat' (first|refine aa.aF ?_|refine aa.q'd true ?_|refine aa.aj [2] (a0) ?_|refine aa.aj [2] (lf) ?_|refine aa.av (ma) ?_|refine aa.ah ?_|refine aa.ae ?_|refine aa.aB ?_|refine aa.ak ?_|refine aa.aH ?_|refine aa.aD ?_|refine aa.bG ?_|refine aa.au ?_|refine aa.cf ?_|refine aa.bg ?_|refine aa.aQ ?_|refine aa.aC ?_|refine aa.aX ?_|refine aa.xa 1 0 ?_|intro _|(apply aa.cZ ;rfl)|(apply aa.gD;rfl;rfl;rfl)|refine aa.aA ?_|refine aa.aJ ?_)
    all_goals exact Tn
  ·rw[if_neg h1]at hP;by_cases h2:0<l.length∧Mk.atB s p=(31,0)
   ·rw[if_pos h2]at hP;rw[h2.2]at ma;have ec:=Sj s p (by omega) (QW h2.2) h8;unfold prE at hP;unfold enE at ec;by_cases h3:p+24=8*s.length∧Mk.gQ s (p+22)=true
    ·rw[if_pos h3]at hP ec;subst hP;simp only;repeat' (first|refine aa.aF ?_|refine aa.q'd true ?_|refine aa.aj [2] (a0) ?_|refine aa.aj [2] (lf) ?_|refine aa.aj [2] (ec) ?_|refine aa.av (ma) ?_|refine aa.ah ?_|refine aa.ae ?_|refine aa.aB ?_|refine aa.ak ?_|refine aa.aH ?_|refine aa.aD ?_|refine aa.bG ?_|refine aa.au ?_|refine aa.cf ?_|refine aa.bg ?_|refine aa.aQ ?_|refine aa.aC ?_|refine aa.aX ?_|refine aa.xa 1 0 ?_|intro _|(apply aa.cZ ;rfl)|(apply aa.gD;rfl;rfl;rfl)|refine aa.aA ?_|refine aa.aJ ?_)
     all_goals exact Tn
    ·rw[if_neg h3]at hP ec;subst hP;simp only;rw[e8];repeat' (first|refine aa.aF ?_|refine aa.q'd true ?_|refine aa.aj [2] (a0) ?_|refine aa.aj [2] (lf) ?_|refine aa.aj [2] (ec) ?_|refine aa.av (ma) ?_|refine aa.ah ?_|refine aa.ae ?_|refine aa.aB ?_|refine aa.ak ?_|refine aa.aH ?_|refine aa.aD ?_|refine aa.bG ?_|refine aa.au ?_|refine aa.cf ?_|refine aa.bg ?_|refine aa.aQ ?_|refine aa.aC ?_|refine aa.aX ?_|(apply aa.nP (.cH [.d (stD [] false),I ((p:Int)/8),I 5]);rfl;exact cJ.cH ⟨cJ.d wP,cJ.refl _,cJ.refl _,trivial⟩;rfl;rfl;rfl)|intro _|(apply aa.cZ ;rfl)|(apply aa.gD;rfl;rfl;rfl)|refine aa.aA ?_|refine aa.aJ ?_)
     all_goals exact Tn
   ·rw[if_neg h2]at hP;have sc:=Mr s p l (by omega) hp (by omega);have nx:=PrI.next hs hp h64 hn1 hP;have h2':0<l.length→(Mk.atB s p).2=0→(Mk.atB s p).1=31→False:=fun a b c=>h2 ⟨a,Prod.ext c b⟩
    generalize Mk.atB s p=A at *;obtain⟨v,f⟩:=A;simp only at ma h2';generalize Si.shX s p=X at *;obtain⟨h,rs,z,ee,u⟩:=X;simp only at sc nx;have one:=IE l h rs ((z:Nat):Int);have hl1:(l++[(⟨h,rs,((z:Nat):Int)⟩:Sx)]).length=l.length+1:=by rw[List.length_append];rfl
    repeat' (first|refine aa.aF ?_|(apply aa.append;(iterate 11 rfl);(first|rfl|(simp only[List.length_append,List.length_map,List.length_cons,List.length_nil];omega));(first|(simp only[List.length_append,List.length_map,List.length_cons,List.length_nil];omega)|(rw[hn];omega));simp only[List.set_cons_zero,List.set_cons_succ])|refine aa.q'd true ?_|refine aa.aj [2] (a0) ?_|refine aa.aj [2] (lf) ?_|refine aa.xN [2] (sc) ?_|refine aa.av (ma) ?_|refine aa.ah ?_|refine aa.ae ?_|refine aa.aB ?_|refine aa.ak ?_|refine aa.aH ?_|refine aa.aD ?_|refine aa.bG ?_|refine aa.au ?_|refine aa.cf ?_|refine aa.bg ?_|refine aa.aQ ?_|refine aa.aC ?_|refine aa.aX ?_|intro _|(apply aa.cZ ;rfl)|(apply aa.gD;rfl;rfl;rfl)|refine aa.aA ?_|refine aa.aJ ?_)
    all_goals first
     |exact aa.jr 4 [(8,I (nxE l (h,rs,z,ee,u))),(7,I ((p/8:Nat):Int)),(6, .ptr 2 0),(5, .ptr 1 0),(2, .ptr 0 0),(0,S s)] (67-(l++[(⟨h,rs,((z:Nat):Int)⟩:Sx)]).length) (by omega) rfl rfl rfl rfl ⟨rfl,by rw[e8];rfl,rfl,rfl,rfl,rfl,trivial⟩ ⟨_,u,p/8,_,rfl,nx,rfl,by rw[one];rfl⟩
     |omega|(exfalso;apply h2'<;>omega)
 ·have hP:=iv.no he;subst hP;simp only;repeat' (first|refine aa.aF ?_|refine aa.bh true ?_|refine aa.ah ?_|refine aa.ae ?_|refine aa.aB ?_|refine aa.ak ?_|refine aa.aH ?_|refine aa.aD ?_|refine aa.bG ?_|refine aa.au ?_|refine aa.cf ?_|refine aa.bg ?_|refine aa.aQ ?_|refine aa.aC ?_|refine aa.aX ?_|(apply aa.nP (.cH [.d (stD [] false),I (a:Int),I e]);rfl;exact cJ.cH ⟨cJ.d wP,cJ.refl _,cJ.refl _,trivial⟩;rfl;rfl;rfl)|intro _|(apply aa.cZ ;rfl)|(apply aa.gD;rfl;rfl;rfl)|refine aa.aA ?_|refine aa.aJ ?_)
  all_goals exact Tn
end Sr
end Go.Proofs.YtbpednchkndocaaGreatDoor.Av
