/- mvd: the rows of amounts. mvd: the document's answer. mvd: found, signed, Take. mvd: signed, Take. mvd: the program's Take and the document's are one. The laws MvdRows and MvdTakes. The law MvdBack. -/
import Derived.Test.YtbpednchkndocaaGreatDoorPd
set_option linter.unusedVariables false
set_option linter.unusedSimpArgs false
set_option maxRecDepth 100000
set_option maxHeartbeats 64000000
namespace Go.Proofs.YtbpednchkndocaaGreatDoor.Av
namespace Mv
open Go Bt
attribute [local irreducible] aa ACalls
noncomputable abbrev cs1:Ctx:=cxg [(0,gl0)]
def lnS(a:Int):Int:=if a<4 then a+1 else if a=4 then 6 else if a<8 then 7 else if a<11 then 9 else if a<25 then 10 else if a<31 then 11 else 12
theorem lC{gl:List (Nat×List D)}(a:Int)(h : -1000≤a∧a≤1000):ACalls (cxg gl) 214 [I a] [] (fun r H=>r=I (lnS a)∧H=[]):=by
 refine ACalls.en Tryz.func214 Tryz.ntmps214 ?_;repeat' (first|refine aa.aF ?_|refine aa.bh true ?_|intro _|(apply aa.cZ ;rfl)|refine aa.aA ?_)
 all_goals refine⟨?_,rfl⟩
 all_goals simp[lnS, *]
def cd(a:Int):Int:=gi0.getD a.toNat 0
theorem Qe:gl0=gi0.map (.int .i64):=rfl
theorem NF(k:Nat)(h:k<33):(gl0.drop (k*1))[0]?=some (.int .i64 (cd k)):=by
 have hl:gi0.length=33:=rfl;rw[Qe,List.getElem?_drop,List.getElem?_map];simp[cd,List.getD,hl,h]
theorem SA:∀k:_root_.Fin 33,(0≤lnS k.val∧lnS k.val≤32)∧0≤cd k.val∧cd k.val<2^(lnS k.val).toNat:=by decide
theorem xK(a:Int)(h:0≤a∧a≤32):(0≤lnS a∧lnS a≤32)∧0≤cd a∧cd a<2^(lnS a).toNat:=by
 obtain⟨k,rfl⟩:=Int.eq_ofNat_of_zero_le h.1;exact SA ⟨k,by omega⟩
theorem tL(a:Int)(h:0≤a∧a≤32):(gl0.drop (a.toNat*1))[0]?=some (.int .i64 (cd a)):=by
 obtain⟨k,rfl⟩:=Int.eq_ofNat_of_zero_le h.1;exact NF k (by omega)
theorem F5:33*1≤gl0.length:=by unfold gl0;decide
def uj(a:Int):List UInt8:=bU (cd a) (lnS a).toNat (lnS a).toNat
def iJ(d:Int):List UInt8:=if d < -32∨d>31 then [] else if d<0 then uj (-d)++[49] else if d=0 then uj 0 else uj d++[48]
attribute [local irreducible] lnS cd gl0 uj
theorem Dn(a:Int):(uj a).length=(lnS a).toNat:=by unfold uj;exact bV _ _ _
theorem Au(d:Int):ACalls cs1 153 [I d] [] (fun r H=>r = .cH [S (iJ d),B (decide (-32≤d∧d≤31))]∧H=[]):=by
 by_cases h1:d < -32∨d>31
 ·refine ACalls.en Tryz.func153 Tryz.ntmps153 ?_;repeat' (first|refine aa.aF ?_|refine aa.bh true ?_|refine aa.eP true ?_|refine aa.aV ?_|refine aa.ah ?_|refine aa.ae ?_|refine aa.aB ?_|refine aa.ak ?_|refine aa.au ?_|refine aa.bg ?_|refine aa.aQ ?_|refine aa.aC ?_|intro _|(apply aa.gD;rfl;rfl;rfl)|refine aa.aA ?_)
  all_goals refine⟨?_,rfl⟩
  all_goals rw[decide_eq_false (by omega)]
  all_goals simp only[iJ,if_pos h1]
 ·rw[decide_eq_true (by omega)];simp only[iJ,if_neg h1];have hl:=F5;rcases Int.lt_trichotomy d 0 with h2|h2|h2
  ·obtain⟨b1,b2⟩:=xK (-d) (by omega);have g1:=tL (-d) (by omega);have o1:ACalls cs1 213 [I (cd (-d)),I (lnS (-d))] [] (fun r H=>r = .cH [S (uj (-d)),I 0]∧H=[]):=by unfold uj;exact Ai _ _ b1 b2
   have l1:=Dn (-d);rw[if_pos h2];refine ACalls.en Tryz.func153 Tryz.ntmps153 ?_;repeat' (first|refine aa.aF ?_|((first|apply aa.q true|apply aa.qq true);rfl;rfl;rfl;rfl;first|exact True.intro|omega|(simp only[tn,Int.reduceToNat];omega)|(refine⟨?_,hl⟩;omega)|(simp only[List.length_append,List.length_cons,List.length_nil,l1];omega))|refine aa.aR (lC (-d) (by omega)) ?_|refine aa.aR (o1) ?_|refine aa.aV ?_|refine aa.ah ?_|refine aa.ae ?_|refine aa.aB ?_|refine aa.ak ?_|refine aa.au ?_|refine aa.bg ?_|refine aa.aQ ?_|refine aa.aC ?_|(apply aa.wX;(iterate 7 rfl);exact g1)|intro _|(apply aa.gD;rfl;rfl;rfl)|refine aa.aA ?_)
   all_goals first|omega|exact⟨rfl,rfl⟩
  ·subst h2;obtain⟨b1,b2⟩:=xK 0 (by omega);have g1:=tL 0 (by omega);have o1:ACalls cs1 213 [I (cd 0),I (lnS 0)] [] (fun r H=>r = .cH [S (uj 0),I 0]∧H=[]):=by unfold uj;exact Ai _ _ b1 b2
   rw[if_neg (by omega),if_pos rfl];refine ACalls.en Tryz.func153 Tryz.ntmps153 ?_;repeat' (first|refine aa.aF ?_|((first|apply aa.q true|apply aa.qq true);rfl;rfl;rfl;rfl;first|exact True.intro|omega|(simp only[tn,Int.reduceToNat];omega)|(refine⟨?_,hl⟩;omega))|refine aa.aR (lC 0 (by omega)) ?_|refine aa.aR (o1) ?_|refine aa.aV ?_|refine aa.ah ?_|refine aa.ae ?_|refine aa.aB ?_|refine aa.ak ?_|refine aa.au ?_|refine aa.bg ?_|refine aa.aQ ?_|refine aa.aC ?_|(apply aa.wX;(iterate 7 rfl);exact g1)|intro _|(apply aa.gD;rfl;rfl;rfl)|refine aa.aA ?_)
   all_goals first|omega|exact⟨rfl,rfl⟩
  ·obtain⟨b1,b2⟩:=xK d (by omega);have g1:=tL d (by omega);have o1:ACalls cs1 213 [I (cd d),I (lnS d)] [] (fun r H=>r = .cH [S (uj d),I 0]∧H=[]):=by unfold uj;exact Ai _ _ b1 b2
   have l1:=Dn d;rw[if_neg (by omega),if_neg (by omega)];refine ACalls.en Tryz.func153 Tryz.ntmps153 ?_;repeat' (first|refine aa.aF ?_|((first|apply aa.q true|apply aa.qq true);rfl;rfl;rfl;rfl;first|exact True.intro|omega|(simp only[tn,Int.reduceToNat];omega)|(refine⟨?_,hl⟩;omega)|(simp only[List.length_append,List.length_cons,List.length_nil,l1];omega))|refine aa.aR (lC d (by omega)) ?_|refine aa.aR (o1) ?_|refine aa.aV ?_|refine aa.ah ?_|refine aa.ae ?_|refine aa.aB ?_|refine aa.ak ?_|refine aa.au ?_|refine aa.bg ?_|refine aa.aQ ?_|refine aa.aC ?_|(apply aa.wX;(iterate 7 rfl);exact g1)|intro _|(apply aa.gD;rfl;rfl;rfl)|refine aa.aA ?_)
   all_goals first|omega|exact⟨rfl,rfl⟩
end Mv
namespace Mv
open Go Bt
attribute [local irreducible] aa ACalls
attribute [local irreducible] uj lnS kr
end Mv
namespace Mv
open Go Bt
attribute [local irreducible] aa ACalls
def fnd(v n:Int):List Nat→Bool→Int×Bool×Bool
 |[],may=>(0,false,may)
 |i::r,may=>if lnS i=n∧cd i=v then ((i:Int),true,true) else fnd v n r (may||decide (n<lnS i∧cd i/2^(lnS i-n).toNat=v))
abbrev Tm(x:Int×Bool×Bool):AV := .cH [I x.1,B x.2.1,B x.2.2]
def mD(v n:Int):Int×Bool×Bool:=fnd v n (List.range 33) false
theorem G8(i:Nat)(h:i<33):List.range' i (33-i)=i::List.range' (i+1) (33-(i+1)):=by
 rw[show 33-i=(33-(i+1))+1 by omega,List.range'_succ]
theorem F8(v n:Int)(hv:0≤v∧v≤1000)(hn:0≤n∧n≤32):ACalls cs1 307 [I v,I n] [] (fun r H=>r=Tm (mD v n)∧H=[]):=by
 have hgl:=F5;refine ACalls.en Tryz.func307 Tryz.ntmps307 ?_;repeat (first|refine aa.aF ?_|refine aa.bh true ?_|refine aa.ah ?_|refine aa.ae ?_|refine aa.ak ?_|refine aa.au ?_|refine aa.cf ?_|refine aa.bg ?_|refine aa.aC ?_)
 refine aa.weak (env':=[(9,I 0),(6,B false),(1,I n),(0,I v)]) ⟨rfl,rfl,rfl,rfl,trivial⟩ ?_;refine aa.loop (fun m env H=>∃(i:Nat) (mb:Bool),m=33-i∧i≤33∧fnd v n (List.range' i (33-i)) mb=mD v n∧env=[(9,I (i:Int)),(6,B mb),(1,I n),(0,I v)]∧H=[]) 33
  ⟨0,false,rfl,by omega,rfl,rfl,rfl⟩ ?_
 rintro m env H ⟨i,mb,rfl,hi,hf,rfl,rfl⟩;rcases Nat.lt_or_ge i 33 with hlt|hge
 ·rw[G8 i hlt,fnd]at hf;obtain⟨⟨b1,b2⟩,b3,b4⟩:=xK (i:Int) (by omega);have g1:=tL (i:Int) (by omega);have hq:∀j:Nat,0≤cd i/2^j:=fun j=>Int.ediv_nonneg b3 (Int.le_of_lt (sN j))
  by_cases c0:lnS i=n∧cd i=v
  ·obtain⟨c1,c2⟩:=c0;rw[if_pos ⟨c1,c2⟩]at hf;repeat' (first|refine aa.aF ?_|refine aa.q'g true ?_|refine aa.av (lC i (by omega)) ?_|refine aa.ah ?_|refine aa.ae ?_|refine aa.ak ?_|refine aa.au ?_|refine aa.cf ?_|refine aa.bg ?_|refine aa.aC ?_|(apply aa.jD;(iterate 7 rfl);exact g1)|intro _|refine aa.aA ?_|refine aa.aP ?_)
   exact⟨by rw[←hf],rfl⟩
  rw[if_neg c0]at hf;by_cases d1:n<lnS i
  ·by_cases d2:cd i/2^(lnS i-n).toNat=v
   ·repeat' (first|refine aa.aF ?_|refine aa.q'g true ?_|refine aa.av (lC i (by omega)) ?_|refine aa.ah ?_|refine aa.ae ?_|refine aa.ak ?_|refine aa.au ?_|refine aa.cf ?_|refine aa.bg ?_|refine aa.aC ?_|(apply aa.jD;(iterate 7 rfl);exact g1)|intro _|refine aa.aA ?_|refine aa.aP ?_)
    refine aa.round [(9,I ((i+1:Nat):Int)),(6,B (mb||decide (n<lnS i∧cd i/2^(lnS i-n).toNat=v))),(1,I n),(0,I v)] (33-(i+1)) (by omega) ⟨rfl,?_,rfl,rfl,trivial⟩ ⟨i+1,_,rfl,hlt,hf,rfl,rfl⟩;exact congrArg B (by simp[d1,d2])
   ·repeat' (first|refine aa.aF ?_|refine aa.q'g true ?_|refine aa.av (lC i (by omega)) ?_|refine aa.ah ?_|refine aa.ae ?_|refine aa.ak ?_|refine aa.au ?_|refine aa.cf ?_|refine aa.bg ?_|refine aa.aC ?_|(apply aa.jD;(iterate 7 rfl);exact g1)|intro _|refine aa.aA ?_|refine aa.aP ?_)
    refine aa.round [(9,I ((i+1:Nat):Int)),(6,B (mb||decide (n<lnS i∧cd i/2^(lnS i-n).toNat=v))),(1,I n),(0,I v)] (33-(i+1)) (by omega) ⟨rfl,?_,rfl,rfl,trivial⟩ ⟨i+1,_,rfl,hlt,hf,rfl,rfl⟩;exact congrArg B (by simp[d1,d2])
  ·by_cases c1:lnS i=n
   ·have c2:¬cd i=v:=fun h=>c0 ⟨c1,h⟩
    repeat' (first|refine aa.aF ?_|refine aa.q'g true ?_|refine aa.av (lC i (by omega)) ?_|refine aa.ah ?_|refine aa.ae ?_|refine aa.ak ?_|refine aa.au ?_|refine aa.cf ?_|refine aa.bg ?_|refine aa.aC ?_|(apply aa.jD;(iterate 7 rfl);exact g1)|intro _|refine aa.aA ?_|refine aa.aP ?_)
    refine aa.round [(9,I ((i+1:Nat):Int)),(6,B (mb||decide (n<lnS i∧cd i/2^(lnS i-n).toNat=v))),(1,I n),(0,I v)] (33-(i+1)) (by omega) ⟨rfl,?_,rfl,rfl,trivial⟩ ⟨i+1,_,rfl,hlt,hf,rfl,rfl⟩;exact congrArg B (by simp[d1])
   ·repeat' (first|refine aa.aF ?_|refine aa.q'g true ?_|refine aa.av (lC i (by omega)) ?_|refine aa.ah ?_|refine aa.ae ?_|refine aa.ak ?_|refine aa.au ?_|refine aa.cf ?_|refine aa.bg ?_|refine aa.aC ?_|(apply aa.jD;(iterate 7 rfl);exact g1)|intro _|refine aa.aA ?_|refine aa.aP ?_)
    refine aa.round [(9,I ((i+1:Nat):Int)),(6,B (mb||decide (n<lnS i∧cd i/2^(lnS i-n).toNat=v))),(1,I n),(0,I v)] (33-(i+1)) (by omega) ⟨rfl,?_,rfl,rfl,trivial⟩ ⟨i+1,_,rfl,hlt,hf,rfl,rfl⟩;exact congrArg B (by simp[d1])
 ·obtain rfl:i=33:=by omega
  repeat (first|refine aa.aF ?_|refine aa.bh true ?_|refine aa.ah ?_|refine aa.ae ?_|refine aa.ak ?_|refine aa.au ?_|refine aa.cf ?_|refine aa.bg ?_|refine aa.aC ?_)
  refine aa.out rfl ⟨_,rfl,?_⟩;repeat (first|refine aa.aF ?_|refine aa.bh true ?_|refine aa.ah ?_|refine aa.ae ?_|refine aa.ak ?_|refine aa.au ?_|refine aa.cf ?_|refine aa.bg ?_|refine aa.aC ?_)
  (apply aa.Jm;rfl;rfl;rfl;rfl)
  exact⟨by rw[←hf];rfl,rfl⟩
end Mv
namespace Mv
open Go Bt
attribute [local irreducible] aa ACalls
section
variable {gl:List (Nat×List D)}
theorem kK(s:List UInt8)(p:Nat)(hs:s.length<1000000000000000)(h:p<8*s.length):ACalls (cxg gl) 186 [.ptr 0 0,I 1] [Rd s p] (fun r H=>r = .cH [I (fq s p),I 0]∧H=[Rd s ((p+1:Nat):Int)]):=by
 have:=qB (gl:=gl) s p (by omega) hs (by omega)
 rwa [show pk1 s p=(fq s p,0) by unfold pk1;rw[if_neg (by omega)],show tk1 s p=((p+1:Nat):Int) by unfold tk1;rw[if_neg (by omega)];omega]at this
theorem nH(s:List UInt8)(p:Nat)(hs:s.length<1000000000000000)(h:p=8*s.length):ACalls (cxg gl) 186 [.ptr 0 0,I 1] [Rd s p] (fun r H=>r = .cH [I 0,I 2]∧H=[Rd s p]):=by
 have:=qB (gl:=gl) s p (by omega) hs (by omega)
 rwa [show pk1 s p=(0,2) by unfold pk1;rw[if_pos (by omega)],show tk1 s p=p by unfold tk1;rw[if_pos (by omega)]]at this
attribute [local irreducible] fq
theorem sg0(s:List UInt8)(p:Nat):ACalls (cxg gl) 308 [.ptr 0 0,I 0] [Rd s p] (fun r H=>r = .cH [I 0,I 0]∧H=[Rd s p]):=by
 refine ACalls.en Tryz.func308 Tryz.ntmps308 ?_;repeat' (first|refine aa.aF ?_|refine aa.bh true ?_|refine aa.ah ?_|intro _|refine aa.aA ?_)
 all_goals exact⟨rfl,rfl⟩
theorem Rk(s:List UInt8)(p:Nat)(a:Int)(ha:0<a∧a≤32)(hs:s.length<1000000000000000)(h:p=8*s.length):ACalls (cxg gl) 308 [.ptr 0 0,I a] [Rd s p] (fun r H=>r = .cH [I 0,I 2]∧H=[Rd s p]):=by
 have t:=nH (gl:=gl) s p hs h;refine ACalls.en Tryz.func308 Tryz.ntmps308 ?_;repeat' (first|refine aa.aF ?_|refine aa.bh true ?_|refine aa.aj [0] (t) ?_|refine aa.ae ?_|refine aa.aB ?_|intro _|refine aa.aA ?_)
 all_goals exact⟨rfl,rfl⟩
theorem sg1(s:List UInt8)(p:Nat)(a:Int)(ha:0<a∧a≤32)(hs:s.length<1000000000000000)(h:p<8*s.length)(hb:fq s p=1):ACalls (cxg gl) 308 [.ptr 0 0,I a] [Rd s p] (fun r H=>r = .cH [I (-a),I 0]∧H=[Rd s ((p+1:Nat):Int)]):=by
 have t:=kK (gl:=gl) s p hs h;rw[hb]at t;refine ACalls.en Tryz.func308 Tryz.ntmps308 ?_;repeat' (first|refine aa.aF ?_|refine aa.bh true ?_|refine aa.aj [0] (t) ?_|refine aa.ah ?_|refine aa.ae ?_|refine aa.ak ?_|intro _|refine aa.aA ?_)
 all_goals exact⟨rfl,rfl⟩
theorem Rl(s:List UInt8)(p:Nat)(a:Int)(ha:31<a∧a≤32)(hs:s.length<1000000000000000)(h:p<8*s.length)(hb:fq s p=0):ACalls (cxg gl) 308 [.ptr 0 0,I a] [Rd s p] (fun r H=>r = .cH [I 0,I 3]∧H=[Rd s ((p+1:Nat):Int)]):=by
 have t:=kK (gl:=gl) s p hs h;rw[hb]at t;refine ACalls.en Tryz.func308 Tryz.ntmps308 ?_;repeat' (first|refine aa.aF ?_|refine aa.bh true ?_|refine aa.aj [0] (t) ?_|refine aa.ah ?_|refine aa.ae ?_|refine aa.ak ?_|intro _|refine aa.aA ?_)
 all_goals exact⟨rfl,rfl⟩
theorem Rj(s:List UInt8)(p:Nat)(a:Int)(ha:0<a∧a≤31)(hs:s.length<1000000000000000)(h:p<8*s.length)(hb:fq s p=0):ACalls (cxg gl) 308 [.ptr 0 0,I a] [Rd s p] (fun r H=>r = .cH [I a,I 0]∧H=[Rd s ((p+1:Nat):Int)]):=by
 have t:=kK (gl:=gl) s p hs h;rw[hb]at t;refine ACalls.en Tryz.func308 Tryz.ntmps308 ?_;repeat' (first|refine aa.aF ?_|refine aa.bh true ?_|refine aa.aj [0] (t) ?_|refine aa.ae ?_|refine aa.ak ?_|intro _|refine aa.aA ?_)
 all_goals exact⟨rfl,rfl⟩
end
theorem F9(v n:Int):∀(l:List Nat) (mb:Bool) (a:Int),fnd v n l mb=(a,false,true)→a=0∧(mb=true∨∃i∈l,n<lnS i∧cd i/2^(lnS i-n).toNat=v)
 |[],mb,a,h=>by simp only[fnd,Prod.mk.injEq]at h;exact⟨h.1.symm, .inl h.2.2⟩
 | i :: l, mb, a, h => by
  simp only[fnd]at h;split at h
  ·simp at h
  ·obtain⟨e,h'⟩:=F9 v n l _ a h;refine⟨e,?_⟩;rcases h' with h'|⟨j,hj,h'⟩
   ·simp only[Bool.or_eq_true,decide_eq_true_eq]at h';rcases h' with h'|h'
    ·exact .inl h'
    ·exact .inr ⟨i,by simp,h'⟩
   ·exact .inr ⟨j,by simp[hj],h'⟩
theorem KA(v n:Int):∀(l:List Nat) (mb m:Bool) (a:Int),fnd v n l mb=(a,true,m)→m=true∧∃i∈l,a=(i:Int)
 |[],mb,m,a,h=>by simp[fnd]at h
 | i :: l, mb, m, a, h => by
  simp only[fnd]at h;split at h
  ·simp only[Prod.mk.injEq]at h;exact⟨h.2.2.symm,i,by simp,h.1.symm⟩
  ·obtain⟨e,j,hj,h'⟩:=KA v n l _ m a h;exact⟨e,j,by simp[hj],h'⟩
theorem Kz(v n:Int):∀(l:List Nat) (mb:Bool) (a:Int),fnd v n l mb=(a,false,false)→a=0
 |[],mb,a,h=>by simp only[fnd,Prod.mk.injEq]at h;exact h.1.symm
 |i::l,mb,a,h=>by
  simp only[fnd]at h;split at h
  ·simp at h
  ·exact Kz v n l _ a h
theorem Tk:∀k:_root_.Fin 33,cd k.val≤17∧lnS k.val≤12:=by decide
theorem CN(v n:Int):mD v n=(0,false,false)∨(mD v n=(0,false,true)∧v≤17∧n≤11)∨∃a:Int,(0≤a∧a≤32)∧mD v n=(a,true,true):=by
 rcases h:mD v n with⟨a,is,may⟩;unfold mD at h;cases is with
 |true =>
  obtain⟨rfl,i,hi,rfl⟩:=KA v n _ _ _ _ h;have:i<33:=by simpa using hi
  exact .inr (.inr ⟨i,by omega,rfl⟩)
 | false =>
  cases may with
  |false=>rw[Kz v n _ _ _ h];exact .inl rfl
  | true =>
   obtain⟨rfl,hm⟩:=F9 v n _ _ _ h;rcases hm with hm|⟨i,hi,h1,h2⟩
   ·cases hm
   ·have hi':i<33:=by simpa using hi
    obtain⟨c1,c2⟩:=Tk ⟨i,hi'⟩;obtain⟨_,c3,_⟩:=xK (i:Int) (by omega);simp only at c1 c2;refine .inr (.inl ⟨rfl,?_,by omega⟩);rw[←h2];exact Int.le_trans (Int.ediv_le_self _ c3) c1
def mt:List Int→Int→Nat→Int×Int×Nat
 |[],_,_=>(0,2,0)
 | b :: r, v, n => match mD (2 * v + b) n with
  |(a,is,may)=>if may=false then (0,3,0) else if is=false then mt r (2*v+b) (n+1) else if a=0 then (0,0,n) else
   match r with
   |[]=>(0,2,0)
   |b2::_=>if b2=1 then (-a,0,n+1) else if 31<a then (0,3,0) else (a,0,n+1)
theorem or_bit(v b:Int)(hv:0≤v)(hb:b=0∨b=1):(((v*2^1).toNat |||b.toNat:Nat):Int)=2*v+b:=by
 obtain⟨n,rfl⟩:=Int.eq_ofNat_of_zero_le hv;have e:((n:Int)*2^1).toNat=n*2:=by omega
 rw[e];have h2:∀m:Nat,n*2 |||m%2=n*2+m%2:=fun m=>by
  have:=Nat.two_pow_add_eq_or_of_lt (i:=1) (b:=m%2) (by omega) n;rw[Nat.mul_comm,←this]
 rcases hb with rfl|rfl
 ·have:=h2 0;simp at this ⊢;omega
 ·have:=h2 1;simp at this ⊢;omega
def JP(p:Nat)(x:Int×Int×Nat):Nat:=if x.2.1=0 then p+x.2.2 else p
attribute [local irreducible] mD fq aG
theorem M4(s:List UInt8)(p:Nat)(hs:s.length≤1000000)(hp:p≤8*s.length):ACalls cs1 295 [.ptr 0 0] [Rd s p]
  (fun r H=>r = .cH [I (mt (aG s p) 0 1).1,I (mt (aG s p) 0 1).2.1]∧H=[Rd s (JP p (mt (aG s p) 0 1))]):=by
 refine ACalls.en Tryz.func295 Tryz.ntmps295 ?_;repeat (first|refine aa.aF ?_|refine aa.bh true ?_|refine aa.aj [0] (ui s p) ?_|refine aa.aB ?_|refine aa.ak ?_|refine aa.au ?_|refine aa.bg ?_|refine aa.aC ?_)
 refine aa.weak (env':=[(6,I 1),(5,I 0),(4,I p),(0, .ptr 0 0)]) ⟨rfl,rfl,rfl,rfl,trivial⟩ ?_
 refine aa.loop (fun m env H=>∃(k:Nat) (v:Int),m=8*s.length-(p+k)∧p+k≤8*s.length∧k≤11∧(0≤v∧v≤17)∧mt (aG s (p+k)) v (k+1)=mt (aG s p) 0 1 ∧
  env=[(6,I ((k+1:Nat):Int)),(5,I v),(4,I p),(0, .ptr 0 0)]∧H=[Rd s ((p+k:Nat):Int)]) (8*s.length-p)
  ⟨0,0,by simp,by omega,by omega,by omega,rfl,rfl,rfl⟩ ?_
 rintro m env H ⟨k,v,rfl,hk,hk2,hv,hm,rfl,rfl⟩;have sk:=fun q:Nat=>gI (gl:=[(0,gl0)]) s q p (by omega) ⟨by omega,by omega⟩
 rcases Nat.lt_or_ge (p+k) (8*s.length)with hlt|hge
 ·rw[jd s _ hlt,mt]at hm;have t1:=kK (gl:=[(0,gl0)]) s (p+k) (by omega) hlt;have hb:=oV s ((p+k:Nat):Int);have eo:=or_bit v (fq s ((p+k:Nat):Int)) hv.1 (by omega);generalize fq s ((p+k:Nat):Int)=b at *;have f1:=F8 (2*v+b) ((k+1:Nat):Int) (by omega) (by omega);rcases CN (2*v+b) ((k+1:Nat):Int)with hf|⟨hf,h17,h11⟩|⟨a,ha,hf⟩
  ·rw[hf]at f1 hm;rw[←eo]at f1;simp only[if_true]at hm;rw[←hm];repeat' (first|refine aa.aF ?_|refine aa.bh true ?_|refine aa.aj [0] (t1) ?_|refine aa.aj [0] (sk (p+k+1)) ?_|refine aa.av (f1) ?_|refine aa.aB ?_|refine aa.ak ?_|refine aa.au ?_|refine aa.bg ?_|refine aa.aC ?_|intro _|refine aa.aP ?_)
   all_goals exact⟨rfl,rfl⟩
  ·rw[hf]at f1 hm;rw[←eo]at f1;simp only[Bool.true_eq_false,if_false,if_true]at hm;repeat' (first|refine aa.aF ?_|refine aa.bh true ?_|refine aa.aj [0] (t1) ?_|refine aa.av (f1) ?_|refine aa.aB ?_|refine aa.ak ?_|refine aa.au ?_|refine aa.bg ?_|refine aa.aC ?_|intro _|refine aa.aP ?_)
   exact aa.round [(6,I ((k+1+1:Nat):Int)),(5,I (2*v+b)),(4,I p),(0, .ptr 0 0)] (8*s.length-(p+(k+1))) (by omega) ⟨rfl,congrArg I eo,rfl,rfl,trivial⟩
    ⟨k+1,2*v+b,rfl,by omega,by omega,by omega,hm,rfl,rfl⟩
  ·rw[hf]at f1 hm;rw[←eo]at f1;simp only[Bool.true_eq_false,if_false]at hm;by_cases ha0:a=0
   ·subst ha0;rw[if_pos rfl]at hm;rw[←hm];repeat' (first|refine aa.aF ?_|refine aa.bh true ?_|refine aa.aj [0] (t1) ?_|refine aa.aj [0] (sg0 s (p+k+1)) ?_|refine aa.av (f1) ?_|refine aa.aB ?_|refine aa.ak ?_|refine aa.au ?_|refine aa.bg ?_|refine aa.aC ?_|intro _|refine aa.aP ?_)
    all_goals exact⟨rfl,rfl⟩
   ·rw[if_neg ha0]at hm;rcases Nat.lt_or_ge (p+k+1) (8*s.length)with hl2|hg2
    ·rw[jd s _ hl2]at hm;have hb2:=oV s ((p+k+1:Nat):Int);simp only at hm;rcases (show fq s ((p+k+1:Nat):Int)=0∨fq s ((p+k+1:Nat):Int)=1 by omega)with h2|h2
     ·rw[h2,if_neg (by decide)]at hm;by_cases ha31:31<a
      ·rw[if_pos ha31]at hm;rw[←hm];have g:=Rl (gl:=[(0,gl0)]) s (p+k+1) a (by omega) (by omega) hl2 h2;repeat' (first|refine aa.aF ?_|refine aa.bh true ?_|refine aa.aj [0] (t1) ?_|refine aa.aj [0] (g) ?_|refine aa.aj [0] (sk (p+k+1+1)) ?_|refine aa.av (f1) ?_|refine aa.aB ?_|refine aa.ak ?_|refine aa.au ?_|refine aa.bg ?_|refine aa.aC ?_|intro _|refine aa.aP ?_)
       all_goals exact⟨rfl,rfl⟩
      ·rw[if_neg ha31]at hm;rw[←hm];have g:=Rj (gl:=[(0,gl0)]) s (p+k+1) a (by omega) (by omega) hl2 h2;repeat' (first|refine aa.aF ?_|refine aa.bh true ?_|refine aa.aj [0] (t1) ?_|refine aa.aj [0] (g) ?_|refine aa.av (f1) ?_|refine aa.aB ?_|refine aa.ak ?_|refine aa.au ?_|refine aa.bg ?_|refine aa.aC ?_|intro _|refine aa.aP ?_)
       all_goals exact⟨rfl,rfl⟩
     ·rw[h2,if_pos rfl]at hm;rw[←hm];have g:=sg1 (gl:=[(0,gl0)]) s (p+k+1) a (by omega) (by omega) hl2 h2;repeat' (first|refine aa.aF ?_|refine aa.bh true ?_|refine aa.aj [0] (t1) ?_|refine aa.aj [0] (g) ?_|refine aa.av (f1) ?_|refine aa.aB ?_|refine aa.ak ?_|refine aa.au ?_|refine aa.bg ?_|refine aa.aC ?_|intro _|refine aa.aP ?_)
      all_goals exact⟨rfl,rfl⟩
    ·rw[lX s _ hg2]at hm;simp only at hm;rw[←hm];have g:=Rk (gl:=[(0,gl0)]) s (p+k+1) a (by omega) (by omega) (by omega);repeat' (first|refine aa.aF ?_|refine aa.bh true ?_|refine aa.aj [0] (t1) ?_|refine aa.aj [0] (g) ?_|refine aa.aj [0] (sk (p+k+1)) ?_|refine aa.av (f1) ?_|refine aa.aB ?_|refine aa.ak ?_|refine aa.au ?_|refine aa.bg ?_|refine aa.aC ?_|intro _|refine aa.aP ?_)
     all_goals exact⟨rfl,rfl⟩
 ·have hpk:p+k=8*s.length:=by omega
  rw[lX s _ hge,mt]at hm;rw[←hm];have t1:=nH (gl:=[(0,gl0)]) s (p+k) (by omega) hpk;have eo:=or_bit v 0 hv.1 (by omega);have f1:=F8 (2*v+0) ((k+1:Nat):Int) (by omega) (by omega);rw[←eo]at f1;repeat' (first|refine aa.aF ?_|refine aa.bh true ?_|refine aa.aj [0] (t1) ?_|refine aa.aj [0] (sk (p+k)) ?_|refine aa.av (f1) ?_|refine aa.aB ?_|refine aa.ak ?_|refine aa.au ?_|refine aa.bg ?_|refine aa.aC ?_|intro _|refine aa.aP ?_)
  all_goals exact⟨rfl,rfl⟩
end Mv
namespace Mv
open Go Bt
attribute [local irreducible] aa ACalls
def lQ:List (List UInt8):=(List.range 64).map fun (j:Nat)=>iJ ((j:Int)-32)
inductive MS where
 |srch (v:Int) (n:Nat)|sgn (a:Int) (n:Nat)
inductive MR where
 |done (d:Int) (c:Nat)|fail|next (s:MS)
def xg:MS→Int→MR
 | .srch v n,b=>match mD (2*v+b) n with
  |(a,is,may)=>if may=false then .fail else if is=false then .next (.srch (2*v+b) (n+1)) else if a=0 then .done 0 n else .next (.sgn a (n+1))
 | .sgn a n,b=>if b=1 then .done (-a) n else if 31<a then .fail else .done a n
def Ar:List Int→MS→Int×Int×Nat
 |[],_=>(0,2,0)
 |b::r,s=>match xg s b with
  | .done d c=>(d,0,c)
  | .fail=>(0,3,0)
  | .next s'=>Ar r s'
theorem Aq:∀(B:List Int) (v:Int) (n:Nat),Ar B (.srch v n)=mt B v n
 |[],v,n=>rfl
 | b :: r, v, n => by
  rw[Ar,xg,mt];rcases mD (2*v+b) n with⟨a,is,may⟩;cases may with
  |false=>simp
  | true =>
   cases is with
   |false=>simpa using Aq r (2*v+b) (n+1)
   | true =>
    by_cases ha:a=0
    ·simp[ha]
    ·simp only[Bool.true_eq_false,if_false,if_neg ha];cases r with
     |nil=>rfl
     | cons b2 r =>
      simp only[Ar,xg];by_cases h1:b2=1
      ·simp[h1]
      ·by_cases h2:31<a
       ·simp[h1,h2]
       ·simp[h1,h2]
def agree:Nat→MS→List UInt8→Bool
 |0,_,_=>false
 |f+1,s,w=>[(0:Int),1].all fun b=>match xg s b,jo lQ w (cn b)with
  | .done d c, .done i c'=>decide (d=(i:Int)-32)&&decide (c=c')
  | .fail, .fail=>true
  | .next s', .next w'=>agree f s' w'
  |_,_=>false
theorem H7:agree 14 (.srch 0 1) []=true:=by decide +kernel
def Same(x y:Int×Int×Nat):Prop:=x.2=y.2∧(x.2.1=0→x.1=y.1-32)∧(x.2.1≠0→x.1=0)
theorem Dv:∀(f:Nat) (s:MS) (w:List UInt8),agree f s w=true→∀B:List Int,(∀b∈B,b=0∨b=1)→Same (Ar B s) (dB lQ (B.map cn) w)
 |0,_,_,h,_,_=>by simp[agree]at h
 |f+1,s,w,h,[],_=>⟨rfl,fun h=>by simp[Ar]at h,fun _=>rfl⟩
 | f + 1, s, w, h, b :: B, hB => by
  have hb:b∈[(0:Int),1]:=by
   rcases hB b (by simp)with h|h<;>simp[h]
  simp only[agree]at h;have hs:=List.all_eq_true.1 h b hb;rw[Ar,List.map_cons,dB];cases hm:xg s b with
  | done d c =>
   cases hr:jo lQ w (cn b)with
   |done i c' =>
    rw[hm,hr]at hs;simp only[Bool.and_eq_true,decide_eq_true_eq]at hs;obtain⟨rfl,rfl⟩:=hs;exact⟨rfl,fun _=>rfl,fun h=>absurd rfl h⟩
   |fail=>rw[hm,hr]at hs;cases hs
   |next w'=>rw[hm,hr]at hs;cases hs
  | fail =>
   cases hr:jo lQ w (cn b)with
   |done i c'=>rw[hm,hr]at hs;cases hs
   |fail =>
    show Same (0,3,0) (0,3,0);refine⟨rfl,?_,fun _=>rfl⟩;intro h;simp at h
   |next w'=>rw[hm,hr]at hs;cases hs
  | next s' =>
   cases hr:jo lQ w (cn b)with
   |done i c'=>rw[hm,hr]at hs;cases hs
   |fail=>rw[hm,hr]at hs;cases hs
   |next w' =>
    rw[hm,hr]at hs;exact Dv f s' w' hs B (fun x hx=>hB x (by simp[hx]))
theorem Hl(i:Nat)(h:i<64):lQ[i]?=some (iJ ((i:Int)-32)):=by simp[lQ,h]
theorem yS:lQ.length=64:=by simp[lQ]
theorem mP(rows:List (List UInt8)):∀(D w:List UInt8),(dB rows D w).2.1=0→0≤(dB rows D w).1∧(dB rows D w).1<rows.length
 |[],w,h=>by simp[dB]at h
 | x :: D, w, h => by
  have key:∀(w:List UInt8) (l:List (List UInt8)) (i j:Nat),lG w l i=some j→i≤j∧j<i+l.length:=by
   intro w l
   induction l with
   |nil=>intro i j h;simp[lG]at h
   |cons r l ih =>
    intro i j h;simp only[lG]at h;split at h
    ·simp only[Option.some.injEq]at h;subst h;simp
    ·have:=ih _ _ h;simp only[List.length_cons];omega
  rw[dB]at h ⊢;unfold jo at h ⊢;cases hf:lG (w++[x]) rows 0 with
  |some i =>
   have:=key _ _ _ _ hf;simp only;omega
  | none =>
   rw[hf]at h;simp only at h ⊢;by_cases ha:rows.any (fun r=>(w++[x]).isPrefixOf r)=true
   ·rw[if_pos ha]at h ⊢;exact mP rows D (w++[x]) h
   ·rw[if_neg ha]at h;simp at h
attribute [local irreducible] lQ kr iJ
end Mv
namespace Mv
open Go Bt
attribute [local irreducible] aa ACalls
attribute [local irreducible] iJ mt aG jw JP lQ
end Mv
namespace Mv
open Go Bt
attribute [local irreducible] aa ACalls
def mgo:List Int→MS→Option (Int×Nat)
 |[],_=>none
 |b::r,s=>match xg s b with
  | .done d c=>if r=[] then some (d,c) else none
  | .fail=>none
  | .next s'=>mgo r s'
theorem FM:∀(B:List Int) (s:MS) (x:Int×Nat),mgo B s=some x→∀R:List Int,Ar (B++R) s=(x.1,0,x.2)
 |[],s,x,h,R=>by simp[mgo]at h
 | b :: r, s, x, h, R => by
  rw[mgo]at h;rw[List.cons_append,Ar];cases hm:xg s b with
  |done d c =>
   rw[hm]at h;simp only at h;split at h
   ·cases h;rfl
   ·cases h
  |fail=>rw[hm]at h;cases h
  |next s' =>
   rw[hm]at h;exact FM r s' x h R
theorem M7:∀j:_root_.Fin 64,mgo ((iJ ((j.val:Int)-32)).map und) (.srch 0 1)=some ((j.val:Int)-32,(iJ ((j.val:Int)-32)).length):=by decide +kernel
attribute [local irreducible] iJ mt aG JP uj bJ
end Mv
end Go.Proofs.YtbpednchkndocaaGreatDoor.Av
