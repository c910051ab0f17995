/- Marks are read: the reader's Fill, Text and Left; marks.At, Zeros and Next, walked. Marks: numbers of rows of bits, no program. Marks: the document's answers, walked. Heads of rows are read: rowhead.Take and the document's answer, walked. Heads of rows are read: rowhead.Take; the document's answer, walked. Heads of rows: the document's answer, walked. Heads of sheets are read: the mark. -/
import Derived.Test.YtbpednchkndocaaGreatDoorPq1
set_option linter.unusedVariables false
set_option linter.unusedSimpArgs false
set_option maxRecDepth 100000
set_option maxHeartbeats 64000000
namespace Go.Proofs.YtbpednchkndocaaGreatDoor.Av
namespace Mk
open Go Bt
attribute [local irreducible] aa ACalls
variable {gl:List (Nat×List D)}
theorem DG(s:List UInt8)(p:Int):ACalls (cxg gl) 200 [.ptr 0 0] [Rd s p] (fun r H=>r=S s∧H=[Rd s p]):=by
 refine ACalls.en Tryz.func200 Tryz.ntmps200 ?_;repeat' (first|refine aa.aF ?_|refine aa.bh true ?_|refine aa.ak ?_|intro _|refine aa.aA ?_)
 all_goals exact Tp
theorem Az(s:List UInt8)(p:Nat)(hs:s.length<1000000000000000)(hp:p≤8*s.length):ACalls (cxg gl) 29 [.ptr 0 0] [Rd s p] (fun r H=>r=I (8*(s.length:Int)-(p:Int))∧H=[Rd s p]):=by
 refine ACalls.en Tryz.func29 Tryz.ntmps29 ?_;repeat' (first|refine aa.aF ?_|refine aa.bh true ?_|refine aa.eP true ?_|refine aa.aV ?_|refine aa.ak ?_|intro _|refine aa.aA ?_)
 all_goals exact Tn
def bE(p:Nat):Nat:=(8-p%8)%8
theorem kx(s:List UInt8)(p:Nat)(h:p≤8*s.length):p+bE p≤8*s.length:=by unfold bE;omega
def gQ(s:List UInt8)(p:Nat):Bool:=nB ((aG s p).take (bE p))==0
theorem AU(s:List UInt8)(p:Nat)(hs:s.length<1000000000000000)(hp:p≤8*s.length):ACalls (cxg gl) 128 [.ptr 0 0] [Rd s p] (fun r H=>r=Ia (if gQ s p then ((bE p:Nat),0) else (0,5))∧H=[Rd s ((if gQ s p then p+bE p else p:Nat):Int)]):=by
 have hle:=kx s p hp;have pk:=Fz (gl:=gl) s p (bE p) hs hp (by unfold bE;omega);unfold pkN at pk;rw[if_neg (by omega)]at pk;have hn:((bE p:Nat):Int)=(8-(p:Int)%8)%8:=by unfold bE;omega
 unfold gQ;generalize nB ((aG s p).take (bE p))=V at *;rw[hn]at pk;by_cases hv:V=0
 ·subst hv;simp only[beq_self_eq_true,if_true];refine ACalls.en Tryz.func128 Tryz.ntmps128 ?_;repeat' (first|refine aa.aF ?_|refine aa.bh true ?_|refine aa.aj [0] (pk) ?_|refine aa.ak ?_|refine aa.aD ?_|refine aa.aQ ?_|intro _|refine aa.aA ?_)
  all_goals first|exact⟨rfl,rfl⟩|exact⟨by first|(rw[hn];done)|(rw[hn];rfl),by first|(rw[Int.natCast_add,hn];done)|(rw[Int.natCast_add,hn];rfl)⟩|omega
 ·have hb:(V==0)=false:=by simpa using hv
  simp only[hb,Bool.false_eq_true,if_false];refine ACalls.en Tryz.func128 Tryz.ntmps128 ?_;repeat' (first|refine aa.aF ?_|refine aa.bh true ?_|refine aa.aj [0] (pk) ?_|refine aa.ak ?_|refine aa.aD ?_|refine aa.aQ ?_|intro _|refine aa.aA ?_)
  all_goals exact Tn
def atB(s:List UInt8)(p:Nat):Int×Int:=if 8*s.length<p+22 then (0,2) else if nB ((aG s p).take 22)/32=1 then (nB ((aG s p).take 22)%32,0) else (0,4)
theorem O2(v:Int)(h:0≤v):((v.toNat &&& (31:Int).toNat:Nat):Int)=v%32:=by
 obtain⟨n,rfl⟩:=Int.eq_ofNat_of_zero_le h;rw[Int.toNat_natCast,show (31:Int).toNat=2^5-1 from rfl,Nat.and_two_pow_sub_one_eq_mod];omega
theorem CG(s:List UInt8)(p:Nat)(hs:s.length<1000000000000000)(hp:p≤8*s.length):ACalls (cxg gl) 115 [S s,I p] [] (fun r H=>r=Ia (atB s p)∧H=[]):=by
 have nw:=Cv (gl:=gl) s;have sk:=gI (gl:=gl) s 0 p hs ⟨by omega,by omega⟩;have tk:=jg (gl:=gl) s p 22 hs hp (by omega);unfold atB;unfold pkN tkN at tk;by_cases h:8*s.length<p+22
 ·rw[if_pos h];rw[if_pos h,if_pos h]at tk;refine ACalls.en Tryz.func115 Tryz.ntmps115 ?_;repeat' (first|refine aa.aF ?_|refine aa.bh true ?_|refine aa.aj [] (nw) ?_|refine aa.aj [0] (sk) ?_|refine aa.aj [0] (tk) ?_|refine aa.aB ?_|refine aa.ak ?_|refine aa.aQ ?_|refine aa.bX ?_|intro _|refine aa.aA ?_)
  all_goals exact Tn
 ·rw[if_neg h];rw[if_neg h,if_neg h]at tk;obtain⟨v0,v1⟩:=mR 22 _ (take_len s p 22 (by omega)) (jf s p 22);have ha:=O2 _ v0;generalize nB ((aG s p).take 22)=V at *;have e5:V/2^5=V/32:=rfl;by_cases hv:V/32=1
  ·rw[if_pos hv];rw[←ha];refine ACalls.en Tryz.func115 Tryz.ntmps115 ?_;repeat' (first|refine aa.aF ?_|refine aa.bh true ?_|refine aa.aj [] (nw) ?_|refine aa.aj [0] (sk) ?_|refine aa.aj [0] (tk) ?_|refine aa.aB ?_|refine aa.ak ?_|refine aa.aQ ?_|refine aa.bX ?_|intro _|refine aa.aA ?_)
   all_goals exact Tn
  ·rw[if_neg hv];refine ACalls.en Tryz.func115 Tryz.ntmps115 ?_;repeat' (first|refine aa.aF ?_|refine aa.bh true ?_|refine aa.aj [] (nw) ?_|refine aa.aj [0] (sk) ?_|refine aa.aj [0] (tk) ?_|refine aa.aB ?_|refine aa.ak ?_|refine aa.aQ ?_|refine aa.bX ?_|intro _|refine aa.aA ?_)
   all_goals exact Tn
def zer:List Int→Nat
 |[]=>0
 |b::r=>if b=0 then zer r+1 else 0
theorem Ic:∀l:List Int,zer l≤l.length
 |[]=>by simp[zer]
 |b::r=>by
  have:=Ic r;unfold zer;split<;>simp<;>omega
def nxB(s:List UInt8)(p:Nat):Int×Bool:=if gQ s p then ((atB s (p+bE p)).1,(atB s (p+bE p)).2==0) else (0,false)
theorem QV(s:List UInt8)(p:Nat):0≤(atB s p).1∧(atB s p).1≤31∧((atB s p).2≠0→(atB s p).1=0):=by
 unfold atB;split
 ·simp
 ·split
  ·simp;omega
  ·simp
theorem FL(s:List UInt8)(p:Nat)(hs:s.length<1000000000000000)(hp:p≤8*s.length):ACalls (cxg gl) 234 [S s,I p] [] (fun r H=>r = .cH [I (nxB s p).1,B (nxB s p).2]∧H=[]):=by
 have nw:=Cv (gl:=gl) s;have sk:=gI (gl:=gl) s 0 p hs ⟨by omega,by omega⟩;have fl:=AU (gl:=gl) s p hs hp;have hle:=kx s p hp;have at':=ui (gl:=gl) s ((p+bE p:Nat):Int);have ma:=CG (gl:=gl) s (p+bE p) hs hle;unfold nxB;generalize gQ s p=k at *;cases k with
 |false =>
  simp only[Bool.false_eq_true,if_false]at fl ⊢;refine ACalls.en Tryz.func234 Tryz.ntmps234 ?_;repeat' (first|refine aa.aF ?_|refine aa.bh true ?_|refine aa.aj [] (nw) ?_|refine aa.aj [0] (sk) ?_|refine aa.aj [0] (fl) ?_|refine aa.aB ?_|refine aa.ak ?_|intro _|refine aa.aA ?_)
  all_goals exact Tn
 |true =>
  simp only[if_true]at fl ⊢;generalize atB s (p+bE p)=m at *;obtain⟨v,e⟩:=m;simp only at ma ⊢;have he:(e==(0:Int))=decide (e=0):=by by_cases h:e=0<;>simp[h]
  rw[he];refine ACalls.en Tryz.func234 Tryz.ntmps234 ?_;repeat' (first|refine aa.aF ?_|refine aa.bh true ?_|refine aa.aj [] (nw) ?_|refine aa.aj [0] (sk) ?_|refine aa.aj [0] (fl) ?_|refine aa.aj [0] (at') ?_|refine aa.av (ma) ?_|refine aa.aB ?_|refine aa.ak ?_|intro _|refine aa.aA ?_)
  all_goals exact Tn
theorem JH(s:List UInt8)(p:Nat)(hs:s.length<1000000000000000)(hp:p≤8*s.length):ACalls (cxg gl) 199 [S s,I p] [] (fun r H=>r=I (zer (aG s p))∧H=[]):=by
 have nw:=Cv (gl:=gl) s;have sk:=gI (gl:=gl) s 0 p hs ⟨by omega,by omega⟩;refine ACalls.en Tryz.func199 Tryz.ntmps199 ?_;repeat (first|refine aa.aF ?_|refine aa.bh true ?_|refine aa.aj [] (nw) ?_|refine aa.aj [0] (sk) ?_|refine aa.aB ?_|refine aa.ak ?_|refine aa.au ?_|refine aa.fI ?_|refine aa.aC ?_)
 refine aa.weak (env':=[(6,I ((0:Nat):Int)),(5, .ptr 0 0)]) ⟨rfl,rfl,trivial⟩ ?_;refine aa.loop (fun m env H=>∃i:Nat,m=8*s.length-(p+i)∧p+i≤8*s.length∧zer (aG s p)=i+zer (aG s (p+i))∧env=[(6,I (i:Int)),(5, .ptr 0 0)]∧H=[Rd s ((p+i:Nat):Int)]) (8*s.length-p)
  ⟨0,rfl,by omega,by simp,rfl,rfl⟩ ?_
 rintro m env H ⟨i,rfl,hi,hz,rfl,rfl⟩;have tk:=jg (gl:=gl) s (p+i) 1 hs hi (by omega);unfold pkN tkN at tk;rcases Nat.lt_or_ge (p+i) (8*s.length)with hlt|hge
 ·rw[if_neg (by omega),if_neg (by omega)]at tk;have hb:=fJ s (p+i);rw[jd s (p+i) hlt]at tk hz hb;have h01:=hb _ List.mem_cons_self;have e1:∀b:Int,nB (List.take 1 (b::aG s (p+i+1)))=b:=fun b=>by simp[nB]
  rw[e1]at tk;generalize fq s ((p+i:Nat):Int)=b at *;rcases h01 with rfl|rfl
  ·have hz':zer (aG s p)=(i+1)+zer (aG s (p+(i+1))):=by
    have e0:zer (0::aG s (p+i+1))=zer (aG s (p+i+1))+1:=by rw[zer,if_pos rfl]
    rw[show p+(i+1)=p+i+1 from rfl];omega
   repeat' (first|refine aa.aF ?_|refine aa.bh true ?_|refine aa.aj [0] (tk) ?_|refine aa.aB ?_|refine aa.ak ?_|refine aa.au ?_|refine aa.fI ?_|refine aa.aC ?_|intro _|refine aa.aP ?_)
   all_goals first
    |exact aa.round [(6,I ((i+1:Nat):Int)),(5, .ptr 0 0)] (8*s.length-(p+(i+1))) (by omega) ⟨rfl,rfl,trivial⟩ ⟨i+1,rfl,by omega,hz',rfl,rfl⟩
    |omega
  ·have hz':zer (aG s p)=i:=by
    have e0:zer (1::aG s (p+i+1))=0:=by rw[zer,if_neg (by decide)]
    omega
   rw[hz'];repeat' (first|refine aa.aF ?_|refine aa.bh true ?_|refine aa.aj [0] (tk) ?_|refine aa.aB ?_|refine aa.ak ?_|refine aa.au ?_|refine aa.fI ?_|refine aa.aC ?_|intro _|refine aa.aP ?_)
   all_goals exact Tn
 ·rw[if_pos (by omega),if_pos (by omega)]at tk;have hz':zer (aG s p)=i:=by rw[hz,lX s (p+i) hge,zer];omega
  rw[hz'];repeat' (first|refine aa.aF ?_|refine aa.bh true ?_|refine aa.aj [0] (tk) ?_|refine aa.aB ?_|refine aa.ak ?_|refine aa.au ?_|refine aa.fI ?_|refine aa.aC ?_|intro _|refine aa.aP ?_)
  all_goals exact Tn
end Mk
namespace Mk
open Go Bt
theorem Ky(l:List Int):∀a:Int,l.foldl (fun a b=>2*a+b) a=a*2^l.length+nB l:=by
 induction l with
 |nil=>intro a;simp[nB]
 | cons b l ih =>
  intro a;have h0:nB (b::l)=b*2^l.length+nB l:=by
   show List.foldl _ (2*0+b) l=_;rw[ih];simp
  rw[h0,List.foldl_cons,ih,List.length_cons,Int.pow_succ,Int.add_mul,Int.mul_comm 2 a,Int.mul_assoc,Int.mul_comm 2 (2^l.length)];omega
theorem rM(a b:List Int):nB (a++b)=nB a*2^b.length+nB b:=by
 have:=Ky b (nB a);rw[←this];simp[nB,List.foldl_append]
theorem JG:∀(n:Nat) (a b:List Int),a.length=n→b.length=n→(∀x∈a,x=0∨x=1)→(∀x∈b,x=0∨x=1)→nB a=nB b→a=b
 |0,a,b,ha,hb,_,_,_=>by rw[List.eq_nil_of_length_eq_zero ha,List.eq_nil_of_length_eq_zero hb]
 |n+1,a,b,ha,hb,h1,h2,h=>by
  have na:a≠[]:=fun e=>by rw[e]at ha;simp at ha
  have nb:b≠[]:=fun e=>by rw[e]at hb;simp at hb
  have ea:=(List.dropLast_concat_getLast na).symm;have eb:=(List.dropLast_concat_getLast nb).symm;have la:=h1 _ (List.getLast_mem na);have lb:=h2 _ (List.getLast_mem nb);rw[ea,eb,kz,kz]at h;have:=JG n a.dropLast b.dropLast (by rw[List.length_dropLast];omega) (by rw[List.length_dropLast];omega) (fun x hx=>h1 x (List.dropLast_subset _ hx)) (fun x hx=>h2 x (List.dropLast_subset _ hx)) (by omega);rw[ea,eb,this];congr 2;rw[this]at h;omega
theorem xe(l:List Int)(h:∀x∈l,x=0∨x=1):iT (l.map cn)=nB l:=by
 have:∀(l:List Int) (a:Int),(∀x∈l,x=0∨x=1)→(l.map cn).foldl (fun n c=>2*n+((c.toNat:Int)-48)) a=l.foldl (fun a b=>2*a+b) a:=by
  intro l
  induction l with
  |nil=>intro a _;rfl
  |cons b l ih =>
   intro a hl;rw[List.map_cons,List.foldl_cons,List.foldl_cons,ih _ fun x hx=>hl x (List.mem_cons_of_mem _ hx)];congr 2;rcases hl b List.mem_cons_self with rfl|rfl<;>rfl
 exact this l 0 h
def cV:List UInt8:=[48,48,48,48,48,48,48,48,48,48,48,48,48,48,48,48,49]
theorem LK(s:List UInt8)(p:Nat)(h:p+22≤8*s.length):
  nB ((aG s p).take 22)/32=nB ((aG s p).take 17)∧nB ((aG s p).take 22)%32=nB ((aG s (p+17)).take 5):=by
 have e:(aG s p).take 22=(aG s p).take 17++((aG s p).drop 17).take 5:=by
  rw[show (22:Nat)=17+5 from rfl,List.take_add]
 have hd:(aG s p).drop 17=aG s (p+17):=by
  apply List.ext_getElem?;intro j;rw[List.getElem?_drop];unfold aG;simp only[List.getElem?_map];by_cases hj:17+j<8*s.length-p
  ·rw[List.getElem?_range hj,List.getElem?_range (by omega)];simp only[Option.map_some];congr 2;omega
  ·rw[List.getElem?_eq_none (by simpa using hj),List.getElem?_eq_none (by simp;omega)];rfl
 rw[hd]at e;have l5:=take_len s (p+17) 5 (by omega);obtain⟨b0,b1⟩:=mR 5 _ l5 (jf s (p+17) 5);rw[e,rM,l5];have:(2:Int)^5=32:=rfl;omega
end Mk
namespace Mk
open Go Bt
attribute [local irreducible] aa ACalls
variable {gl:List (Nat×List D)}
theorem FQ(l:List Int)(h:∀x∈l,x=0∨x=1):(l.map cn).all bB=true:=by
 rw[List.all_eq_true];intro c hc;obtain⟨x,hx,rfl⟩:=List.mem_map.1 hc;rcases h x hx with rfl|rfl<;>decide
attribute [local irreducible] jw aG iT cn
end Mk
namespace Mk
open Go Bt
attribute [local irreducible] aa ACalls
variable {gl:List (Nat×List D)}
def rhT(s:List UInt8)(p:Nat)(k:Int):Int×Int×Int×Nat :=
 if (nxB s p).2 then
  if (nxB s p).1=k then
   if 8*s.length<p+bE p+22+7 then (0,0,2,p+bE p+22)
   else (nB ((aG s (p+bE p+22)).take 7)/32,nB ((aG s (p+bE p+22)).take 7)%32,if nB ((aG s (p+bE p+22)).take 7)%32=0 then 9 else 0,p+bE p+22+7)
  else (0,0,10,p)
 else (0,0,4,p)
theorem Al(s:List UInt8)(p:Nat)(h:(nxB s p).2=true):gQ s p=true∧p+bE p+22≤8*s.length:=by
 unfold nxB at h;cases hk:gQ s p with
 |false=>rw[hk]at h;simp at h
 |true =>
  rw[hk]at h;simp only[if_true,beq_iff_eq]at h;refine⟨rfl,?_⟩;unfold atB at h;split at h
  ·cases h
  ·omega
attribute [local irreducible] nxB gQ
theorem Rs(s:List UInt8)(p:Nat)(k:Int)(hk : -9223372036854775808≤k∧k≤9223372036854775807)(hs:s.length<1000000000000000)(hp:p≤8*s.length):ACalls (cxg gl) 265 [.ptr 0 0,I k] [Rd s p] (fun r H=>r = .cH [I (rhT s p k).1,I (rhT s p k).2.1,I (rhT s p k).2.2.1]∧H=[Rd s ((rhT s p k).2.2.2:Int)]):=by
 have tx:=DG (gl:=gl) s p;have a0:=ui (gl:=gl) s p;have nx:=FL (gl:=gl) s p hs hp;have fl:=AU (gl:=gl) s p hs hp;have ok:=Al s p;unfold rhT;generalize nxB s p=X at *;obtain⟨n,b⟩:=X;simp only at nx ok ⊢;cases b with
 |false =>
  simp only[Bool.false_eq_true,if_false];refine ACalls.en Tryz.func265 Tryz.ntmps265 ?_;repeat' (first|refine aa.aF ?_|refine aa.bh true ?_|refine aa.aj [0] (tx) ?_|refine aa.aj [0] (a0) ?_|refine aa.av (nx) ?_|refine aa.ah ?_|refine aa.ae ?_|refine aa.aB ?_|refine aa.ak ?_|refine aa.au ?_|refine aa.bg ?_|refine aa.aQ ?_|refine aa.bX ?_|refine aa.aC ?_|intro _|refine aa.aA ?_)
  all_goals exact Tn
 | true =>
  obtain⟨o1,o2⟩:=ok rfl;rw[o1]at fl;simp only[if_true]at fl ⊢;by_cases hn:n=k
  ·rw[if_pos hn];have t22:=jg (gl:=gl) s (p+bE p) 22 hs (by omega) (by omega);have t7:=jg (gl:=gl) s (p+bE p+22) 7 hs (by omega) (by omega);unfold pkN tkN at t22 t7;rw[if_neg (by omega),if_neg (by omega)]at t22;generalize p+bE p=q at *;by_cases h7:8*s.length<q+22+7
   ·rw[if_pos h7,if_pos h7]at t7;rw[if_pos h7];refine ACalls.en Tryz.func265 Tryz.ntmps265 ?_;repeat' (first|refine aa.aF ?_|refine aa.bh true ?_|refine aa.aj [0] (tx) ?_|refine aa.aj [0] (a0) ?_|refine aa.aj [0] (fl) ?_|refine aa.aj [0] (t22) ?_|refine aa.aj [0] (t7) ?_|refine aa.av (nx) ?_|refine aa.ah ?_|refine aa.ae ?_|refine aa.aB ?_|refine aa.ak ?_|refine aa.au ?_|refine aa.bg ?_|refine aa.aQ ?_|refine aa.bX ?_|refine aa.aC ?_|intro _|refine aa.aA ?_)
    all_goals exact Tn
   ·rw[if_neg h7,if_neg h7]at t7;rw[if_neg h7];obtain⟨v0,v1⟩:=mR 7 _ (take_len s (q+22) 7 (by omega)) (jf s (q+22) 7);have ha:=O2 _ v0;generalize nB ((aG s (q+22)).take 7)=V at *;rw[←ha];by_cases hv:((V.toNat &&& (31:Int).toNat:Nat):Int)=0
    ·rw[if_pos hv];refine ACalls.en Tryz.func265 Tryz.ntmps265 ?_;repeat' (first|refine aa.aF ?_|refine aa.bh true ?_|refine aa.aj [0] (tx) ?_|refine aa.aj [0] (a0) ?_|refine aa.aj [0] (fl) ?_|refine aa.aj [0] (t22) ?_|refine aa.aj [0] (t7) ?_|refine aa.av (nx) ?_|refine aa.ah ?_|refine aa.ae ?_|refine aa.aB ?_|refine aa.ak ?_|refine aa.au ?_|refine aa.bg ?_|refine aa.aQ ?_|refine aa.bX ?_|refine aa.aC ?_|intro _|refine aa.aA ?_)
     all_goals exact Tn
    ·rw[if_neg hv];refine ACalls.en Tryz.func265 Tryz.ntmps265 ?_;repeat' (first|refine aa.aF ?_|refine aa.bh true ?_|refine aa.aj [0] (tx) ?_|refine aa.aj [0] (a0) ?_|refine aa.aj [0] (fl) ?_|refine aa.aj [0] (t22) ?_|refine aa.aj [0] (t7) ?_|refine aa.av (nx) ?_|refine aa.ah ?_|refine aa.ae ?_|refine aa.aB ?_|refine aa.ak ?_|refine aa.au ?_|refine aa.bg ?_|refine aa.aQ ?_|refine aa.bX ?_|refine aa.aC ?_|intro _|refine aa.aA ?_)
     all_goals exact Tn
  ·rw[if_neg hn];refine ACalls.en Tryz.func265 Tryz.ntmps265 ?_;repeat' (first|refine aa.aF ?_|refine aa.bh true ?_|refine aa.aj [0] (tx) ?_|refine aa.aj [0] (a0) ?_|refine aa.av (nx) ?_|refine aa.ah ?_|refine aa.ae ?_|refine aa.aB ?_|refine aa.ak ?_|refine aa.au ?_|refine aa.bg ?_|refine aa.aQ ?_|refine aa.bX ?_|refine aa.aC ?_|intro _|refine aa.aA ?_)
   all_goals exact Tn
end Mk
namespace Mk
open Go Bt
attribute [local irreducible] aa ACalls
variable {gl:List (Nat×List D)}
theorem Jl(s:List UInt8)(p:Nat)(k:Int)(hp:p≤8*s.length):(rhT s p k).2.2.2≤8*s.length∧p≤(rhT s p k).2.2.2:=by
 unfold rhT;split
 ·rename_i h;have:=(Al s p h).2;split
  ·split<;>simp<;>omega
  ·simp;omega
 ·simp;omega
def rhX(s:List UInt8)(p:Nat)(k:Int):Int×Int×Int×Nat:=if (rhT s p k).2.2.1=0 then rhT s p k else (0,0,(rhT s p k).2.2.1,p)
attribute [local irreducible] rhT
theorem Jj(s:List UInt8)(p:Nat)(k:Int)(hk : -9223372036854775808≤k∧k≤9223372036854775807)(hs:s.length<1000000000000000)(hp:p≤8*s.length):ACalls (cxg gl) 235 [.ptr 0 0,I k] [Rd s p] (fun r H=>r = .cH [I (rhX s p k).1,I (rhX s p k).2.1,I (rhX s p k).2.2.1]∧H=[Rd s ((rhX s p k).2.2.2:Int)]):=by
 have a0:=ui (gl:=gl) s p;have tk:=Rs (gl:=gl) s p k hk hs hp;have hle:=Jl s p k hp;unfold rhX;generalize rhT s p k=T at *;obtain⟨i,q,e,u⟩:=T;simp only at tk hle ⊢;have sk:=gI (gl:=gl) s u p hs ⟨by omega,by omega⟩;by_cases he:e=0
 ·subst he;simp only[if_true];refine ACalls.en Tryz.func235 Tryz.ntmps235 ?_;repeat' (first|refine aa.aF ?_|refine aa.bh true ?_|refine aa.aj [0] (a0) ?_|refine aa.aj [0] (tk) ?_|refine aa.ak ?_|refine aa.aQ ?_|intro _|refine aa.aA ?_)
  all_goals exact Tn
 ·rw[if_neg he];refine ACalls.en Tryz.func235 Tryz.ntmps235 ?_;repeat' (first|refine aa.aF ?_|refine aa.bh true ?_|refine aa.aj [0] (a0) ?_|refine aa.aj [0] (tk) ?_|refine aa.aj [0] (sk) ?_|refine aa.ak ?_|refine aa.aQ ?_|intro _|refine aa.aA ?_)
  all_goals exact Tn
end Mk
namespace Mk
open Go Bt
attribute [local irreducible] aa ACalls
variable {gl:List (Nat×List D)}
theorem xS(s:List UInt8)(p n:Nat):(aG s p).drop n=aG s (p+n):=by
 apply List.ext_getElem?;intro j;rw[List.getElem?_drop];unfold aG;simp only[List.getElem?_map];by_cases hj:n+j<8*s.length-p
 ·rw[List.getElem?_range hj,List.getElem?_range (by omega)];simp only[Option.map_some];congr 2;omega
 ·rw[List.getElem?_eq_none (by simpa using hj),List.getElem?_eq_none (by simp;omega)];rfl
attribute [local irreducible] jw aG nxB gQ
end Mk
namespace Mk
open Go Bt
attribute [local irreducible] aa ACalls
variable {gl:List (Nat×List D)}
def mkM(s:List UInt8)(p:Nat):Int×Nat :=
 if p%8=0 then (if (atB s p).2=0 then (if (atB s p).1=0 then (0,p+22) else (4,p)) else ((atB s p).2,p)) else (4,p)
theorem EJ(s:List UInt8)(p:Nat)(h:(atB s p).2=0):p+22≤8*s.length:=by
 unfold atB at h;split at h
 ·cases h
 ·omega
attribute [local irreducible] atB
theorem P6(s:List UInt8)(p:Nat)(hs:s.length<1000000000000000)(hp:p≤8*s.length):ACalls (cxg gl) 190 [.ptr 0 0] [Rd s p] (fun r H=>r=I (mkM s p).1∧H=[Rd s ((mkM s p).2:Int)]):=by
 have tx:=DG (gl:=gl) s p;have a0:=ui (gl:=gl) s p;have ma:=CG (gl:=gl) s p hs hp;have ok:=EJ s p;have t22:=jg (gl:=gl) s p 22 hs hp (by omega);unfold pkN tkN at t22;unfold mkM;generalize atB s p=A at *;obtain⟨v,e⟩:=A;simp only at ma ok ⊢;by_cases h8:p%8=0
 ·rw[if_pos h8];have h8':(p:Int)%8=0:=by omega
  by_cases he:e=0
  ·subst he;have o:=ok rfl;rw[if_neg (by omega),if_neg (by omega)]at t22;simp only[if_true];by_cases hv:v=0
   ·subst hv;simp only[if_true];refine ACalls.en Tryz.func190 Tryz.ntmps190 ?_;repeat' (first|refine aa.aF ?_|refine aa.bh true ?_|refine aa.aj [0] (a0) ?_|refine aa.aj [0] (tx) ?_|refine aa.aj [0] (t22) ?_|refine aa.av (ma) ?_|refine aa.ah ?_|refine aa.ae ?_|refine aa.ak ?_|refine aa.au ?_|refine aa.bg ?_|refine aa.aQ ?_|refine aa.bX ?_|refine aa.aC ?_|intro _|(apply aa.kD;rfl)|refine aa.aA ?_)
    all_goals first|exact⟨rfl,rfl⟩|omega|(exfalso;rename_i hx;simp_all;done)
   ·rw[if_neg hv];refine ACalls.en Tryz.func190 Tryz.ntmps190 ?_;repeat' (first|refine aa.aF ?_|refine aa.bh true ?_|refine aa.aj [0] (a0) ?_|refine aa.aj [0] (tx) ?_|refine aa.aj [0] (t22) ?_|refine aa.av (ma) ?_|refine aa.ah ?_|refine aa.ae ?_|refine aa.ak ?_|refine aa.au ?_|refine aa.bg ?_|refine aa.aQ ?_|refine aa.bX ?_|refine aa.aC ?_|intro _|(apply aa.kD;rfl)|refine aa.aA ?_)
    all_goals first|exact⟨rfl,rfl⟩|omega|(exfalso;rename_i hx;simp_all;done)
  ·rw[if_neg he];refine ACalls.en Tryz.func190 Tryz.ntmps190 ?_;repeat' (first|refine aa.aF ?_|refine aa.bh true ?_|refine aa.aj [0] (a0) ?_|refine aa.aj [0] (tx) ?_|refine aa.aj [0] (t22) ?_|refine aa.av (ma) ?_|refine aa.ah ?_|refine aa.ae ?_|refine aa.ak ?_|refine aa.au ?_|refine aa.bg ?_|refine aa.aQ ?_|refine aa.bX ?_|refine aa.aC ?_|intro _|(apply aa.kD;rfl)|refine aa.aA ?_)
   all_goals first|exact⟨rfl,rfl⟩|omega|(exfalso;rename_i hx;simp_all;done)
 ·rw[if_neg h8];have h8':(p:Int)%8≠0:=by omega
  refine ACalls.en Tryz.func190 Tryz.ntmps190 ?_;repeat' (first|refine aa.aF ?_|refine aa.bh true ?_|refine aa.aj [0] (a0) ?_|refine aa.ah ?_|refine aa.ae ?_|refine aa.ak ?_|refine aa.au ?_|refine aa.bg ?_|refine aa.aQ ?_|refine aa.bX ?_|refine aa.aC ?_|intro _|(apply aa.kD;rfl)|refine aa.aA ?_)
  all_goals first|exact⟨rfl,rfl⟩|omega|(exfalso;rename_i hx;simp_all;done)
end Mk
end Go.Proofs.YtbpednchkndocaaGreatDoor.Av
