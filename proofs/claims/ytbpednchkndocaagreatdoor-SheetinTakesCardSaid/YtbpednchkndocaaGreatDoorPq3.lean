/- mvd: the rows of amounts. mvd: the document's answer. mvd: found, signed, Take. mvd: signed, Take. mvd: the program's Take and the document's are one. The laws MvdRows and MvdTakes. The law MvdBack. -/
import Derived.Test.YtbpednchkndocaaGreatDoorPd
set_option linter.unusedVariables false
set_option linter.unusedSimpArgs false
set_option maxRecDepth 100000
set_option maxHeartbeats 64000000
namespace Go.Proofs.YtbpednchkndocaaGreatDoor.Av
namespace Mv
open Go Bt
attribute [local irreducible] aa ACalls
noncomputable abbrev cs1:Ctx:=cxg [(0,gl0)]
def lnS (a:Int):Int:=if a<4 then a+1 else if a=4 then 6 else if a<8 then 7 else if a<11 then 9 else if a<25 then 10 else if a<31 then 11 else 12
theorem nQ {gl:List (Nat×List D)} (a:Int) (h : -1000≤a∧a≤1000):ACalls (cxg gl) 214 [I a] [] (fun r H=>r=I (lnS a)∧H=[]):=by
 refine ACalls.en Tryz.func214 Tryz.ntmps214 ?_
 repeat' (first|refine aa.aD ?_|refine aa.bh true ?_|intro _|(apply aa.ed ;rfl)|refine aa.av ?_)
 all_goals refine⟨?_,rfl⟩
 all_goals simp[lnS, *]
def cd (a:Int):Int:=gi0.getD a.toNat 0
theorem LW:gl0=gi0.map (.int .i64):=rfl
theorem JD (k:Nat) (h:k<33):(gl0.drop (k*1))[0]?=some (.int .i64 (cd k)):=by
 have hl:gi0.length=33:=rfl
 rw[LW,List.getElem?_drop,List.getElem?_map]
 simp[cd,List.getD,hl,h]
theorem NP:∀k:_root_.Fin 33,(0≤lnS k.val∧lnS k.val≤32)∧0≤cd k.val∧cd k.val<2^(lnS k.val).toNat:=by decide
theorem yF (a:Int) (h:0≤a∧a≤32):(0≤lnS a∧lnS a≤32)∧0≤cd a∧cd a<2^(lnS a).toNat:=by
 obtain⟨k,rfl⟩:=Int.eq_ofNat_of_zero_le h.1
 exact NP ⟨k,by omega⟩
theorem G9 (a:Int) (h:0≤a∧a≤32):(gl0.drop (a.toNat*1))[0]?=some (.int .i64 (cd a)):=by
 obtain⟨k,rfl⟩:=Int.eq_ofNat_of_zero_le h.1
 exact JD k (by omega)
theorem JC:33*1≤gl0.length:=by unfold gl0;decide
def vF (a:Int):List UInt8:=cH (cd a) (lnS a).toNat (lnS a).toNat
def oN (d:Int):List UInt8:=if d < -32∨d>31 then [] else if d<0 then vF (-d)++[49] else if d=0 then vF 0 else vF d++[48]
attribute [local irreducible] lnS cd gl0 vF
theorem AP (a:Int):(vF a).length=(lnS a).toNat:=by unfold vF;exact gb _ _ _
end Mv
namespace Mv
open Go Bt
attribute [local irreducible] aa ACalls
def amL:List (List UInt8):=[[49],[48,49],[48,48,49],[48,48,48,49],[48,48,48,48,49,49],[48,48,48,48,49,48,49],[48,48,48,48,49,48,48],[48,48,48,48,48,49,49],[48,48,48,48,48,49,48,49,49],[48,48,48,48,48,49,48,49,48],[48,48,48,48,48,49,48,48,49],[48,48,48,48,48,49,48,48,48,49],[48,48,48,48,48,49,48,48,48,48],[48,48,48,48,48,48,49,49,49,49],[48,48,48,48,48,48,49,49,49,48],[48,48,48,48,48,48,49,49,48,49],[48,48,48,48,48,48,49,49,48,48],[48,48,48,48,48,48,49,48,49,49],[48,48,48,48,48,48,49,48,49,48],[48,48,48,48,48,48,49,48,48,49],[48,48,48,48,48,48,49,48,48,48],[48,48,48,48,48,48,48,49,49,49],[48,48,48,48,48,48,48,49,49,48],[48,48,48,48,48,48,48,49,48,49],[48,48,48,48,48,48,48,49,48,48],[48,48,48,48,48,48,48,48,49,49,49],[48,48,48,48,48,48,48,48,49,49,48],[48,48,48,48,48,48,48,48,49,48,49],[48,48,48,48,48,48,48,48,49,48,48],[48,48,48,48,48,48,48,48,48,49,49],[48,48,48,48,48,48,48,48,48,49,48],[48,48,48,48,48,48,48,48,48,48,49,49],[48,48,48,48,48,48,48,48,48,48,49,48]]
theorem N7:∀k:_root_.Fin 33,amL.getD k.val []=vF (k.val:Int):=by decide +kernel
theorem MI (a:Int) (h:0≤a∧a≤32):amL.getD a.toNat []=vF a:=by
 obtain⟨k,rfl⟩:=Int.eq_ofNat_of_zero_le h.1
 exact N7 ⟨k,by omega⟩
theorem rZ {gl:List (Nat×List D)}:ACalls (cxg gl) 239 [] [] (fun r H=>r = .d (.sl 1 (bE amL))∧H=[]):=by
 refine ACalls.en Tryz.func239 Tryz.ntmps239 ?_
 repeat' (first|refine aa.aD ?_|refine aa.bh true ?_|refine aa.aF ?_|intro _|refine aa.av ?_)
 all_goals refine⟨?_,rfl⟩
 all_goals unfold bE
 all_goals rfl
theorem J9:(bE amL).length=33:=by rw[gK];rfl
theorem yO (a:Int) (h:0≤a∧a≤32):((bE amL).getD a.toNat .top).cells[0]?=some (.str (vF a)):=by
 have hl:amL.length=33:=rfl
 rw[kN amL _ (by omega),MI a h]
attribute [local irreducible] vF lnS bE
theorem CB {gl:List (Nat×List D)} (d:Int):ACalls (cxg gl) 204 [I d] [] (fun r H=>r=S (oN d)∧H=[]):=by
 have hal:=J9
 by_cases h1:d < -32∨d>31
 ·refine ACalls.en Tryz.func204 Tryz.ntmps204 ?_
  repeat' (first|refine aa.aD ?_|refine aa.bh true ?_|refine aa.ae ?_|refine aa.af ?_|refine aa.au ?_|refine aa.ai ?_|refine aa.aj ?_|refine aa.bq ?_|refine aa.aB ?_|intro _|(apply aa.gD;rfl;rfl;rfl)|refine aa.av ?_)
  all_goals refine⟨?_,rfl⟩
  all_goals simp only[oN,if_pos h1]
 ·simp only[oN,if_neg h1]
  rcases Int.lt_trichotomy d 0 with h2|h2|h2
  ·have g1:=yO (-d) (by omega)
   have l1:=AP (-d)
   have b1:=yF (-d) (by omega)
   rw[if_pos h2]
   refine ACalls.en Tryz.func204 Tryz.ntmps204 ?_
   repeat' (first|refine aa.aD ?_|(apply aa.q true;rfl;rfl;rfl;rfl;first|exact True.intro|omega|(simp only[tn,Int.reduceToNat];omega)|(rw[hal];omega)|(simp only[List.length_append,List.length_cons,List.length_nil,l1];omega))|refine aa.ah (rZ) ?_|refine aa.ae ?_|refine aa.af ?_|refine aa.au ?_|refine aa.ai ?_|refine aa.aj ?_|refine aa.bq ?_|refine aa.aB ?_|(apply aa.gQ;(iterate 7 rfl);exact g1)|intro _|(apply aa.gD;rfl;rfl;rfl)|refine aa.av ?_)
   all_goals first|omega|exact⟨rfl,rfl⟩
  ·subst h2
   have g1:=yO 0 (by omega)
   rw[if_neg (by omega),if_pos rfl]
   refine ACalls.en Tryz.func204 Tryz.ntmps204 ?_
   repeat' (first|refine aa.aD ?_|(apply aa.q true;rfl;rfl;rfl;rfl;first|exact True.intro|omega|(simp only[tn,Int.reduceToNat];omega)|(rw[hal];omega))|refine aa.ah (rZ) ?_|refine aa.ae ?_|refine aa.af ?_|refine aa.au ?_|refine aa.ai ?_|refine aa.aj ?_|refine aa.bq ?_|refine aa.aB ?_|(apply aa.gQ;(iterate 7 rfl);exact g1)|intro _|(apply aa.gD;rfl;rfl;rfl)|refine aa.av ?_)
   all_goals first|omega|exact⟨rfl,rfl⟩
  ·have g1:=yO d (by omega)
   have l1:=AP d
   have b1:=yF d (by omega)
   rw[if_neg (by omega),if_neg (by omega)]
   refine ACalls.en Tryz.func204 Tryz.ntmps204 ?_
   repeat' (first|refine aa.aD ?_|(apply aa.q true;rfl;rfl;rfl;rfl;first|exact True.intro|omega|(simp only[tn,Int.reduceToNat];omega)|(rw[hal];omega)|(simp only[List.length_append,List.length_cons,List.length_nil,l1];omega))|refine aa.ah (rZ) ?_|refine aa.ae ?_|refine aa.af ?_|refine aa.au ?_|refine aa.ai ?_|refine aa.aj ?_|refine aa.bq ?_|refine aa.aB ?_|(apply aa.gQ;(iterate 7 rfl);exact g1)|intro _|(apply aa.gD;rfl;rfl;rfl)|refine aa.av ?_)
   all_goals first|omega|exact⟨rfl,rfl⟩
end Mv
namespace Mv
open Go Bt
attribute [local irreducible] aa ACalls
def fnd (v n:Int):List Nat→Bool→Int×Bool×Bool
 |[],may=>(0,false,may)
 |i::r,may=>if lnS i=n∧cd i=v then ((i:Int),true,true) else fnd v n r (may||decide (n<lnS i∧cd i / 2^(lnS i - n).toNat=v))
abbrev Oz (x:Int×Bool×Bool):AV := .bK [I x.1,B x.2.1,B x.2.2]
def lc (v n:Int):Int×Bool×Bool:=fnd v n (List.range 33) false
theorem Eg (i:Nat) (h:i<33):List.range' i (33 - i)=i::List.range' (i+1) (33 - (i+1)):=by
 rw[show 33 - i=(33 - (i+1))+1 by omega,List.range'_succ]
theorem Df (v n:Int) (hv:0≤v∧v≤1000) (hn:0≤n∧n≤32):ACalls cs1 307 [I v,I n] [] (fun r H=>r=Oz (lc v n)∧H=[]):=by
 have hgl:=JC
 refine ACalls.en Tryz.func307 Tryz.ntmps307 ?_
 repeat (first|refine aa.aD ?_|refine aa.bh true ?_|refine aa.ae ?_|refine aa.af ?_|refine aa.ai ?_|refine aa.aj ?_|refine aa.bL ?_|refine aa.bq ?_|refine aa.aB ?_)
 refine aa.weak (env':=[(9,I 0),(6,B false),(1,I n),(0,I v)]) ⟨rfl,rfl,rfl,rfl,trivial⟩ ?_
 refine aa.loop (fun m env H=>∃(i:Nat) (mb:Bool),m=33 - i∧i≤33∧fnd v n (List.range' i (33 - i)) mb=lc v n∧env=[(9,I (i:Int)),(6,B mb),(1,I n),(0,I v)]∧H=[]) 33
  ⟨0,false,rfl,by omega,rfl,rfl,rfl⟩ ?_
 rintro m env H ⟨i,mb,rfl,hi,hf,rfl,rfl⟩
 rcases Nat.lt_or_ge i 33 with hlt|hge
 ·rw[Eg i hlt,fnd]at hf
  obtain⟨⟨b1,b2⟩,b3,b4⟩:=yF (i:Int) (by omega)
  have g1:=G9 (i:Int) (by omega)
  have hq:∀j:Nat,0≤cd i / 2^j:=fun j=>Int.ediv_nonneg b3 (Int.le_of_lt (zI j))
  by_cases c0:lnS i=n∧cd i=v
  ·obtain⟨c1,c2⟩:=c0
   rw[if_pos ⟨c1,c2⟩]at hf
   repeat' (first|refine aa.aD ?_|(apply aa.q true;rfl;rfl;rfl;rfl;first|exact True.intro|omega|(simp only[tn,Int.reduceToNat];omega)|(refine⟨?_,hgl⟩;omega)|(simp only[IntKind.bits];omega))|refine aa.ah (nQ i (by omega)) ?_|refine aa.ae ?_|refine aa.af ?_|refine aa.ai ?_|refine aa.aj ?_|refine aa.bL ?_|refine aa.bq ?_|refine aa.aB ?_|(apply aa.gQ;(iterate 7 rfl);exact g1)|intro _|refine aa.av ?_|refine aa.aP ?_)
   exact⟨by rw[←hf],rfl⟩
  rw[if_neg c0]at hf
  by_cases d1:n<lnS i
  ·by_cases d2:cd i / 2^(lnS i - n).toNat=v
   ·repeat' (first|refine aa.aD ?_|(apply aa.q true;rfl;rfl;rfl;rfl;first|exact True.intro|omega|(simp only[tn,Int.reduceToNat];omega)|(refine⟨?_,hgl⟩;omega)|(simp only[IntKind.bits];omega))|refine aa.ah (nQ i (by omega)) ?_|refine aa.ae ?_|refine aa.af ?_|refine aa.ai ?_|refine aa.aj ?_|refine aa.bL ?_|refine aa.bq ?_|refine aa.aB ?_|(apply aa.gQ;(iterate 7 rfl);exact g1)|intro _|refine aa.av ?_|refine aa.aP ?_)
    refine aa.round [(9,I ((i+1:Nat):Int)),(6,B (mb||decide (n<lnS i∧cd i / 2^(lnS i - n).toNat=v))),(1,I n),(0,I v)] (33 - (i+1)) (by omega) ⟨rfl,?_,rfl,rfl,trivial⟩ ⟨i+1,_,rfl,hlt,hf,rfl,rfl⟩
    exact congrArg B (by simp[d1,d2])
   ·repeat' (first|refine aa.aD ?_|(apply aa.q true;rfl;rfl;rfl;rfl;first|exact True.intro|omega|(simp only[tn,Int.reduceToNat];omega)|(refine⟨?_,hgl⟩;omega)|(simp only[IntKind.bits];omega))|refine aa.ah (nQ i (by omega)) ?_|refine aa.ae ?_|refine aa.af ?_|refine aa.ai ?_|refine aa.aj ?_|refine aa.bL ?_|refine aa.bq ?_|refine aa.aB ?_|(apply aa.gQ;(iterate 7 rfl);exact g1)|intro _|refine aa.av ?_|refine aa.aP ?_)
    refine aa.round [(9,I ((i+1:Nat):Int)),(6,B (mb||decide (n<lnS i∧cd i / 2^(lnS i - n).toNat=v))),(1,I n),(0,I v)] (33 - (i+1)) (by omega) ⟨rfl,?_,rfl,rfl,trivial⟩ ⟨i+1,_,rfl,hlt,hf,rfl,rfl⟩
    exact congrArg B (by simp[d1,d2])
  ·by_cases c1:lnS i=n
   ·have c2:¬cd i=v:=fun h=>c0 ⟨c1,h⟩
    repeat' (first|refine aa.aD ?_|(apply aa.q true;rfl;rfl;rfl;rfl;first|exact True.intro|omega|(simp only[tn,Int.reduceToNat];omega)|(refine⟨?_,hgl⟩;omega)|(simp only[IntKind.bits];omega))|refine aa.ah (nQ i (by omega)) ?_|refine aa.ae ?_|refine aa.af ?_|refine aa.ai ?_|refine aa.aj ?_|refine aa.bL ?_|refine aa.bq ?_|refine aa.aB ?_|(apply aa.gQ;(iterate 7 rfl);exact g1)|intro _|refine aa.av ?_|refine aa.aP ?_)
    refine aa.round [(9,I ((i+1:Nat):Int)),(6,B (mb||decide (n<lnS i∧cd i / 2^(lnS i - n).toNat=v))),(1,I n),(0,I v)] (33 - (i+1)) (by omega) ⟨rfl,?_,rfl,rfl,trivial⟩ ⟨i+1,_,rfl,hlt,hf,rfl,rfl⟩
    exact congrArg B (by simp[d1])
   ·repeat' (first|refine aa.aD ?_|(apply aa.q true;rfl;rfl;rfl;rfl;first|exact True.intro|omega|(simp only[tn,Int.reduceToNat];omega)|(refine⟨?_,hgl⟩;omega)|(simp only[IntKind.bits];omega))|refine aa.ah (nQ i (by omega)) ?_|refine aa.ae ?_|refine aa.af ?_|refine aa.ai ?_|refine aa.aj ?_|refine aa.bL ?_|refine aa.bq ?_|refine aa.aB ?_|(apply aa.gQ;(iterate 7 rfl);exact g1)|intro _|refine aa.av ?_|refine aa.aP ?_)
    refine aa.round [(9,I ((i+1:Nat):Int)),(6,B (mb||decide (n<lnS i∧cd i / 2^(lnS i - n).toNat=v))),(1,I n),(0,I v)] (33 - (i+1)) (by omega) ⟨rfl,?_,rfl,rfl,trivial⟩ ⟨i+1,_,rfl,hlt,hf,rfl,rfl⟩
    exact congrArg B (by simp[d1])
 ·obtain rfl:i=33:=by omega
  repeat (first|refine aa.aD ?_|refine aa.bh true ?_|refine aa.ae ?_|refine aa.af ?_|refine aa.ai ?_|refine aa.aj ?_|refine aa.bL ?_|refine aa.bq ?_|refine aa.aB ?_)
  refine aa.out rfl ⟨_,rfl,?_⟩
  repeat (first|refine aa.aD ?_|refine aa.bh true ?_|refine aa.ae ?_|refine aa.af ?_|refine aa.ai ?_|refine aa.aj ?_|refine aa.bL ?_|refine aa.bq ?_|refine aa.aB ?_)
  (apply aa.zy;rfl;rfl;rfl;rfl)
  exact⟨by rw[←hf];rfl,rfl⟩
end Mv
namespace Mv
open Go Bt
attribute [local irreducible] aa ACalls
section
variable {gl:List (Nat×List D)}
theorem jF (s:List UInt8) (p:Nat) (hs:s.length<1000000000000000) (h:p<8*s.length):ACalls (cxg gl) 186 [.ptr 0 0,I 1] [Rd s p] (fun r H=>r = .bK [I (dz s p),I 0]∧H=[Rd s ((p+1:Nat):Int)]):=by
 have:=ol (gl:=gl) s p (by omega) hs (by omega)
 rwa [show pk1 s p=(dz s p,0) by unfold pk1;rw[if_neg (by omega)],show tk1 s p=((p+1:Nat):Int) by unfold tk1;rw[if_neg (by omega)];omega]at this
theorem lW (s:List UInt8) (p:Nat) (hs:s.length<1000000000000000) (h:p=8*s.length):ACalls (cxg gl) 186 [.ptr 0 0,I 1] [Rd s p] (fun r H=>r = .bK [I 0,I 2]∧H=[Rd s p]):=by
 have:=ol (gl:=gl) s p (by omega) hs (by omega)
 rwa [show pk1 s p=(0,2) by unfold pk1;rw[if_pos (by omega)],show tk1 s p=p by unfold tk1;rw[if_pos (by omega)]]at this
attribute [local irreducible] dz
theorem sg0 (s:List UInt8) (p:Nat):ACalls (cxg gl) 308 [.ptr 0 0,I 0] [Rd s p] (fun r H=>r = .bK [I 0,I 0]∧H=[Rd s p]):=by
 refine ACalls.en Tryz.func308 Tryz.ntmps308 ?_
 repeat' (first|refine aa.aD ?_|refine aa.bh true ?_|refine aa.ae ?_|intro _|refine aa.av ?_)
 all_goals exact⟨rfl,rfl⟩
theorem M0 (s:List UInt8) (p:Nat) (a:Int) (ha:0<a∧a≤32) (hs:s.length<1000000000000000) (h:p=8*s.length):ACalls (cxg gl) 308 [.ptr 0 0,I a] [Rd s p] (fun r H=>r = .bK [I 0,I 2]∧H=[Rd s p]):=by
 have t:=lW (gl:=gl) s p hs h
 refine ACalls.en Tryz.func308 Tryz.ntmps308 ?_
 repeat' (first|refine aa.aD ?_|refine aa.bh true ?_|refine aa.az [0] ( t) ?_|refine aa.af ?_|refine aa.au ?_|intro _|refine aa.av ?_)
 all_goals exact⟨rfl,rfl⟩
theorem sg1 (s:List UInt8) (p:Nat) (a:Int) (ha:0<a∧a≤32) (hs:s.length<1000000000000000) (h:p<8*s.length) (hb:dz s p=1):ACalls (cxg gl) 308 [.ptr 0 0,I a] [Rd s p] (fun r H=>r = .bK [I (-a),I 0]∧H=[Rd s ((p+1:Nat):Int)]):=by
 have t:=jF (gl:=gl) s p hs h
 rw[hb]at t
 refine ACalls.en Tryz.func308 Tryz.ntmps308 ?_
 repeat' (first|refine aa.aD ?_|refine aa.bh true ?_|refine aa.az [0] ( t) ?_|refine aa.ae ?_|refine aa.af ?_|refine aa.ai ?_|intro _|refine aa.av ?_)
 all_goals exact⟨rfl,rfl⟩
theorem M3 (s:List UInt8) (p:Nat) (a:Int) (ha:31<a∧a≤32) (hs:s.length<1000000000000000) (h:p<8*s.length) (hb:dz s p=0):ACalls (cxg gl) 308 [.ptr 0 0,I a] [Rd s p] (fun r H=>r = .bK [I 0,I 3]∧H=[Rd s ((p+1:Nat):Int)]):=by
 have t:=jF (gl:=gl) s p hs h
 rw[hb]at t
 refine ACalls.en Tryz.func308 Tryz.ntmps308 ?_
 repeat' (first|refine aa.aD ?_|refine aa.bh true ?_|refine aa.az [0] ( t) ?_|refine aa.ae ?_|refine aa.af ?_|refine aa.ai ?_|intro _|refine aa.av ?_)
 all_goals exact⟨rfl,rfl⟩
theorem MZ (s:List UInt8) (p:Nat) (a:Int) (ha:0<a∧a≤31) (hs:s.length<1000000000000000) (h:p<8*s.length) (hb:dz s p=0):ACalls (cxg gl) 308 [.ptr 0 0,I a] [Rd s p] (fun r H=>r = .bK [I a,I 0]∧H=[Rd s ((p+1:Nat):Int)]):=by
 have t:=jF (gl:=gl) s p hs h
 rw[hb]at t
 refine ACalls.en Tryz.func308 Tryz.ntmps308 ?_
 repeat' (first|refine aa.aD ?_|refine aa.bh true ?_|refine aa.az [0] ( t) ?_|refine aa.af ?_|refine aa.ai ?_|intro _|refine aa.av ?_)
 all_goals exact⟨rfl,rfl⟩
end
theorem Di (v n:Int):∀(l:List Nat) (mb:Bool) (a:Int),fnd v n l mb=(a,false,true)→a=0∧(mb=true∨∃i∈l,n<lnS i∧cd i / 2^(lnS i - n).toNat=v)
 |[],mb,a,h=>by simp only[fnd,Prod.mk.injEq]at h;exact⟨h.1.symm, .inl h.2.2⟩
 |i::l,mb,a,h=>by
  simp only[fnd]at h
  split at h
  ·simp at h
  ·obtain⟨e,h'⟩:=Di v n l _ a h
   refine⟨e,?_⟩
   rcases h' with h'|⟨j,hj,h'⟩
   ·simp only[Bool.or_eq_true,decide_eq_true_eq]at h'
    rcases h' with h'|h'
    ·exact .inl h'
    ·exact .inr ⟨i,by simp,h'⟩
   ·exact .inr ⟨j,by simp[hj],h'⟩
theorem Hh (v n:Int):∀(l:List Nat) (mb m:Bool) (a:Int),fnd v n l mb=(a,true,m)→m=true∧∃i∈l,a=(i:Int)
 |[],mb,m,a,h=>by simp[fnd]at h
 |i::l,mb,m,a,h=>by
  simp only[fnd]at h
  split at h
  ·simp only[Prod.mk.injEq]at h;exact⟨h.2.2.symm,i,by simp,h.1.symm⟩
  ·obtain⟨e,j,hj,h'⟩:=Hh v n l _ m a h
   exact⟨e,j,by simp[hj],h'⟩
theorem Hg (v n:Int):∀(l:List Nat) (mb:Bool) (a:Int),fnd v n l mb=(a,false,false)→a=0
 |[],mb,a,h=>by simp only[fnd,Prod.mk.injEq]at h;exact h.1.symm
 |i::l,mb,a,h=>by
  simp only[fnd]at h
  split at h
  ·simp at h
  ·exact Hg v n l _ a h
theorem Oy:∀k:_root_.Fin 33,cd k.val≤17∧lnS k.val≤12:=by decide
theorem Ai (v n:Int):lc v n=(0,false,false)∨(lc v n=(0,false,true)∧v≤17∧n≤11)∨∃a:Int,(0≤a∧a≤32)∧lc v n=(a,true,true):=by
 rcases h:lc v n with⟨a,is,may⟩
 unfold lc at h
 cases is with
 |true =>
  obtain⟨rfl,i,hi,rfl⟩:=Hh v n _ _ _ _ h
  have:i<33:=by simpa using hi
  exact .inr (.inr ⟨i,by omega,rfl⟩)
 |false =>
  cases may with
  |false=>rw[Hg v n _ _ _ h];exact .inl rfl
  |true =>
   obtain⟨rfl,hm⟩:=Di v n _ _ _ h
   rcases hm with hm|⟨i,hi,h1,h2⟩
   ·cases hm
   ·have hi':i<33:=by simpa using hi
    obtain⟨c1,c2⟩:=Oy ⟨i,hi'⟩
    obtain⟨_,c3,_⟩:=yF (i:Int) (by omega)
    simp only at c1 c2
    refine .inr (.inl ⟨rfl,?_,by omega⟩)
    rw[←h2]
    exact Int.le_trans (Int.ediv_le_self _ c3) c1
def mt:List Int→Int→Nat→Int×Int×Nat
 |[],_,_=>(0,2,0)
 |b::r,v,n=>match lc (2*v+b) n with
  |(a,is,may)=>if may=false then (0,3,0) else if is=false then mt r (2*v+b) (n+1) else if a=0 then (0,0,n) else
   match r with
   |[]=>(0,2,0)
   |b2::_=>if b2=1 then (-a,0,n+1) else if 31<a then (0,3,0) else (a,0,n+1)
theorem or_bit (v b:Int) (hv:0≤v) (hb:b=0∨b=1):(((v*2^1).toNat |||b.toNat:Nat):Int)=2*v+b:=by
 obtain⟨n,rfl⟩:=Int.eq_ofNat_of_zero_le hv
 have e:((n:Int)*2^1).toNat=n*2:=by omega
 rw[e]
 have h2:∀m:Nat,n*2 |||m%2=n*2+m%2:=fun m=>by
  have:=Nat.two_pow_add_eq_or_of_lt (i:=1) (b:=m%2) (by omega) n
  rw[Nat.mul_comm,←this]
 rcases hb with rfl|rfl
 ·have:=h2 0;simp at this ⊢;omega
 ·have:=h2 1;simp at this ⊢;omega
def vO (p:Nat) (x:Int×Int×Nat):Nat:=if x.2.1=0 then p+x.2.2 else p
attribute [local irreducible] lc dz ak
theorem Je (s:List UInt8) (p:Nat) (hs:s.length≤1000000) (hp:p≤8*s.length):ACalls cs1 295 [.ptr 0 0] [Rd s p]
  (fun r H=>r = .bK [I (mt (ak s p) 0 1).1,I (mt (ak s p) 0 1).2.1]∧H=[Rd s (vO p (mt (ak s p) 0 1))]):=by
 refine ACalls.en Tryz.func295 Tryz.ntmps295 ?_
 repeat (first|refine aa.aD ?_|refine aa.bh true ?_|refine aa.az [0] ( qX s p) ?_|refine aa.au ?_|refine aa.ai ?_|refine aa.aj ?_|refine aa.bq ?_|refine aa.aB ?_)
 refine aa.weak (env':=[(6,I 1),(5,I 0),(4,I p),(0, .ptr 0 0)]) ⟨rfl,rfl,rfl,rfl,trivial⟩ ?_
 refine aa.loop (fun m env H=>∃(k:Nat) (v:Int),m=8*s.length - (p+k)∧p+k≤8*s.length∧k≤11∧(0≤v∧v≤17)∧mt (ak s (p+k)) v (k+1)=mt (ak s p) 0 1 ∧
  env=[(6,I ((k+1:Nat):Int)),(5,I v),(4,I p),(0, .ptr 0 0)]∧H=[Rd s ((p+k:Nat):Int)]) (8*s.length - p)
  ⟨0,0,by simp,by omega,by omega,by omega,rfl,rfl,rfl⟩ ?_
 rintro m env H ⟨k,v,rfl,hk,hk2,hv,hm,rfl,rfl⟩
 have sk:=fun q:Nat=>fG (gl:=[(0,gl0)]) s q p (by omega) ⟨by omega,by omega⟩
 rcases Nat.lt_or_ge (p+k) (8*s.length)with hlt|hge
 ·rw[fO s _ hlt,mt]at hm
  have t1:=jF (gl:=[(0,gl0)]) s (p+k) (by omega) hlt
  have hb:=jw s ((p+k:Nat):Int)
  have eo:=or_bit v (dz s ((p+k:Nat):Int)) hv.1 (by omega)
  generalize dz s ((p+k:Nat):Int)=b at *
  have f1:=Df (2*v+b) ((k+1:Nat):Int) (by omega) (by omega)
  rcases Ai (2*v+b) ((k+1:Nat):Int)with hf|⟨hf,h17,h11⟩|⟨a,ha,hf⟩
  ·rw[hf]at f1 hm
   rw[←eo]at f1
   simp only[if_true]at hm
   rw[←hm]
   repeat' (first|refine aa.aD ?_|refine aa.bh true ?_|refine aa.az [0] ( t1) ?_|refine aa.az [0] ( sk (p+k+1)) ?_|refine aa.ah (f1) ?_|refine aa.au ?_|refine aa.ai ?_|refine aa.aj ?_|refine aa.bq ?_|refine aa.aB ?_|intro _|refine aa.aP ?_)
   all_goals exact⟨rfl,rfl⟩
  ·rw[hf]at f1 hm
   rw[←eo]at f1
   simp only[Bool.true_eq_false,if_false,if_true]at hm
   repeat' (first|refine aa.aD ?_|refine aa.bh true ?_|refine aa.az [0] ( t1) ?_|refine aa.ah (f1) ?_|refine aa.au ?_|refine aa.ai ?_|refine aa.aj ?_|refine aa.bq ?_|refine aa.aB ?_|intro _|refine aa.aP ?_)
   exact aa.round [(6,I ((k+1+1:Nat):Int)),(5,I (2*v+b)),(4,I p),(0, .ptr 0 0)] (8*s.length - (p+(k+1))) (by omega) ⟨rfl,congrArg I eo,rfl,rfl,trivial⟩
    ⟨k+1,2*v+b,rfl,by omega,by omega,by omega,hm,rfl,rfl⟩
  ·rw[hf]at f1 hm
   rw[←eo]at f1
   simp only[Bool.true_eq_false,if_false]at hm
   by_cases ha0:a=0
   ·subst ha0
    rw[if_pos rfl]at hm
    rw[←hm]
    repeat' (first|refine aa.aD ?_|refine aa.bh true ?_|refine aa.az [0] ( t1) ?_|refine aa.az [0] ( sg0 s (p+k+1)) ?_|refine aa.ah (f1) ?_|refine aa.au ?_|refine aa.ai ?_|refine aa.aj ?_|refine aa.bq ?_|refine aa.aB ?_|intro _|refine aa.aP ?_)
    all_goals exact⟨rfl,rfl⟩
   ·rw[if_neg ha0]at hm
    rcases Nat.lt_or_ge (p+k+1) (8*s.length)with hl2|hg2
    ·rw[fO s _ hl2]at hm
     have hb2:=jw s ((p+k+1:Nat):Int)
     simp only at hm
     rcases (show dz s ((p+k+1:Nat):Int)=0∨dz s ((p+k+1:Nat):Int)=1 by omega)with h2|h2
     ·rw[h2,if_neg (by decide)]at hm
      by_cases ha31:31<a
      ·rw[if_pos ha31]at hm
       rw[←hm]
       have g:=M3 (gl:=[(0,gl0)]) s (p+k+1) a (by omega) (by omega) hl2 h2
       repeat' (first|refine aa.aD ?_|refine aa.bh true ?_|refine aa.az [0] ( t1) ?_|refine aa.az [0] ( g) ?_|refine aa.az [0] ( sk (p+k+1+1)) ?_|refine aa.ah (f1) ?_|refine aa.au ?_|refine aa.ai ?_|refine aa.aj ?_|refine aa.bq ?_|refine aa.aB ?_|intro _|refine aa.aP ?_)
       all_goals exact⟨rfl,rfl⟩
      ·rw[if_neg ha31]at hm
       rw[←hm]
       have g:=MZ (gl:=[(0,gl0)]) s (p+k+1) a (by omega) (by omega) hl2 h2
       repeat' (first|refine aa.aD ?_|refine aa.bh true ?_|refine aa.az [0] ( t1) ?_|refine aa.az [0] ( g) ?_|refine aa.ah (f1) ?_|refine aa.au ?_|refine aa.ai ?_|refine aa.aj ?_|refine aa.bq ?_|refine aa.aB ?_|intro _|refine aa.aP ?_)
       all_goals exact⟨rfl,rfl⟩
     ·rw[h2,if_pos rfl]at hm
      rw[←hm]
      have g:=sg1 (gl:=[(0,gl0)]) s (p+k+1) a (by omega) (by omega) hl2 h2
      repeat' (first|refine aa.aD ?_|refine aa.bh true ?_|refine aa.az [0] ( t1) ?_|refine aa.az [0] ( g) ?_|refine aa.ah (f1) ?_|refine aa.au ?_|refine aa.ai ?_|refine aa.aj ?_|refine aa.bq ?_|refine aa.aB ?_|intro _|refine aa.aP ?_)
      all_goals exact⟨rfl,rfl⟩
    ·rw[kP s _ hg2]at hm
     simp only at hm
     rw[←hm]
     have g:=M0 (gl:=[(0,gl0)]) s (p+k+1) a (by omega) (by omega) (by omega)
     repeat' (first|refine aa.aD ?_|refine aa.bh true ?_|refine aa.az [0] ( t1) ?_|refine aa.az [0] ( g) ?_|refine aa.az [0] ( sk (p+k+1)) ?_|refine aa.ah (f1) ?_|refine aa.au ?_|refine aa.ai ?_|refine aa.aj ?_|refine aa.bq ?_|refine aa.aB ?_|intro _|refine aa.aP ?_)
     all_goals exact⟨rfl,rfl⟩
 ·have hpk:p+k=8*s.length:=by omega
  rw[kP s _ hge,mt]at hm
  rw[←hm]
  have t1:=lW (gl:=[(0,gl0)]) s (p+k) (by omega) hpk
  have eo:=or_bit v 0 hv.1 (by omega)
  have f1:=Df (2*v+0) ((k+1:Nat):Int) (by omega) (by omega)
  rw[←eo]at f1
  repeat' (first|refine aa.aD ?_|refine aa.bh true ?_|refine aa.az [0] ( t1) ?_|refine aa.az [0] ( sk (p+k)) ?_|refine aa.ah (f1) ?_|refine aa.au ?_|refine aa.ai ?_|refine aa.aj ?_|refine aa.bq ?_|refine aa.aB ?_|intro _|refine aa.aP ?_)
  all_goals exact⟨rfl,rfl⟩
end Mv
namespace Mv
open Go Bt
attribute [local irreducible] aa ACalls
def dL:List (List UInt8):=(List.range 64).map fun (j:Nat)=>oN ((j:Int) - 32)
inductive MS where
 |srch (v:Int) (n:Nat)|sgn (a:Int) (n:Nat)
inductive MR where
 |done (d:Int) (c:Nat)|fail|next (s:MS)
def zS:MS→Int→MR
 | .srch v n,b=>match lc (2*v+b) n with
  |(a,is,may)=>if may=false then .fail else if is=false then .next (.srch (2*v+b) (n+1)) else if a=0 then .done 0 n else .next (.sgn a (n+1))
 | .sgn a n,b=>if b=1 then .done (-a) n else if 31<a then .fail else .done a n
def BH:List Int→MS→Int×Int×Nat
 |[],_=>(0,2,0)
 |b::r,s=>match zS s b with
  | .done d c=>(d,0,c)
  | .fail=>(0,3,0)
  | .next s'=>BH r s'
theorem xV:∀(B:List Int) (v:Int) (n:Nat),BH B (.srch v n)=mt B v n
 |[],v,n=>rfl
 |b::r,v,n=>by
  rw[BH,zS,mt]
  rcases lc (2*v+b) n with⟨a,is,may⟩
  cases may with
  |false=>simp
  |true =>
   cases is with
   |false=>simpa using xV r (2*v+b) (n+1)
   |true =>
    by_cases ha:a=0
    ·simp[ha]
    ·simp only[Bool.true_eq_false,if_false,if_neg ha]
     cases r with
     |nil=>rfl
     |cons b2 r =>
      simp only[BH,zS]
      by_cases h1:b2=1
      ·simp[h1]
      ·by_cases h2:31<a
       ·simp[h1,h2]
       ·simp[h1,h2]
def agree:Nat→MS→List UInt8→Bool
 |0,_,_=>false
 |f+1,s,w=>[(0:Int),1].all fun b=>match zS s b,iH dL w (bM b)with
  | .done d c, .done i c'=>decide (d=(i:Int) - 32)&&decide (c=c')
  | .fail, .fail=>true
  | .next s', .next w'=>agree f s' w'
  |_,_=>false
theorem xb:agree 14 (.srch 0 1) []=true:=by decide +kernel
def Same (x y:Int×Int×Nat):Prop:=x.2=y.2∧(x.2.1=0→x.1=y.1 - 32)∧(x.2.1≠0→x.1=0)
theorem vI:∀(f:Nat) (s:MS) (w:List UInt8),agree f s w=true→∀B:List Int,(∀b∈B,b=0∨b=1)→Same (BH B s) (cV dL (B.map bM) w)
 |0,_,_,h,_,_=>by simp[agree]at h
 |f+1,s,w,h,[],_=>⟨rfl,fun h=>by simp[BH]at h,fun _=>rfl⟩
 |f+1,s,w,h,b::B,hB=>by
  have hb:b∈[(0:Int),1]:=by
   rcases hB b (by simp)with h|h<;>simp[h]
  simp only[agree]at h
  have hs:=List.all_eq_true.1 h b hb
  rw[BH,List.map_cons,cV]
  cases hm:zS s b with
  |done d c =>
   cases hr:iH dL w (bM b)with
   |done i c' =>
    rw[hm,hr]at hs
    simp only[Bool.and_eq_true,decide_eq_true_eq]at hs
    obtain⟨rfl,rfl⟩:=hs
    exact⟨rfl,fun _=>rfl,fun h=>absurd rfl h⟩
   |fail=>rw[hm,hr]at hs;cases hs
   |next w'=>rw[hm,hr]at hs;cases hs
  |fail =>
   cases hr:iH dL w (bM b)with
   |done i c'=>rw[hm,hr]at hs;cases hs
   |fail =>
    show Same (0,3,0) (0,3,0)
    refine⟨rfl,?_,fun _=>rfl⟩
    intro h
    simp at h
   |next w'=>rw[hm,hr]at hs;cases hs
  |next s' =>
   cases hr:iH dL w (bM b)with
   |done i c'=>rw[hm,hr]at hs;cases hs
   |fail=>rw[hm,hr]at hs;cases hs
   |next w' =>
    rw[hm,hr]at hs
    exact vI f s' w' hs B (fun x hx=>hB x (by simp[hx]))
theorem sJ:∀r∈dL,r.length≤24:=by decide +kernel
theorem wG (i:Nat) (h:i<64):dL[i]?=some (oN ((i:Int) - 32)):=by simp[dL,h]
theorem BI (i:Nat) (h:i<64):dL.take (i+1)=dL.take i++[oN ((i:Int) - 32)]:=by
 rw[List.take_add_one,wG i h];rfl
theorem xw (a b:List (List UInt8)):bE (a++b)=bE a++bE b:=by simp[bE]
theorem Ed (r:List UInt8):bE [r]=[.str r]:=rfl
theorem Cy:bE (dL.take 0)=[]:=rfl
theorem oG:dL.length=64:=by simp[dL]
def D8 (x:Int×Int×Int) (p:Int):Int×Int×Int:=if x.2.2=0 then (x.1 - 32,x.2.1,0) else (0,p,x.2.2)
theorem iR (rows:List (List UInt8)):∀(D w:List UInt8),(cV rows D w).2.1=0→0≤(cV rows D w).1∧(cV rows D w).1<rows.length
 |[],w,h=>by simp[cV]at h
 |x::D,w,h=>by
  have key:∀(w:List UInt8) (l:List (List UInt8)) (i j:Nat),gu w l i=some j→i≤j∧j<i+l.length:=by
   intro w l
   induction l with
   |nil=>intro i j h;simp[gu]at h
   |cons r l ih =>
    intro i j h
    simp only[gu]at h
    split at h
    ·simp only[Option.some.injEq]at h;subst h;simp
    ·have:=ih _ _ h;simp only[List.length_cons];omega
  rw[cV]at h ⊢
  unfold iH at h ⊢
  cases hf:gu (w++[x]) rows 0 with
  |some i =>
   have:=key _ _ _ _ hf
   simp only;omega
  |none =>
   rw[hf]at h
   simp only at h ⊢
   by_cases ha:rows.any (fun r=>(w++[x]).isPrefixOf r)=true
   ·rw[if_pos ha]at h ⊢
    exact iR rows D (w++[x]) h
   ·rw[if_neg ha]at h;simp at h
attribute [local irreducible] dL bE t5 oN
theorem FT {gl:List (Nat×List D)} (L:List UInt8) (p:Nat) (hL:L.length≤1000000) (hp:p≤1000000) (hbd:(t5 dL L p 25 1).2.2=0→0≤(t5 dL L p 25 1).1∧(t5 dL L p 25 1).1<64) :
  ACalls (cxg gl) 135 [S L,I p] [] (fun r H=>r=Tri (D8 (t5 dL L p 25 1) p)∧H=[]):=by
 have hl:=oG
 have ht:=tz (gl:=gl) dL L p (by omega) hL hp
 refine ACalls.en Tryz.func135 Tryz.ntmps135 ?_
 repeat (first|refine aa.aD ?_|refine aa.bh true ?_|refine aa.ae ?_|refine aa.af ?_|refine aa.ai ?_|refine aa.aK ?_|refine aa.aF ?_)
 refine aa.weak (env':=[(8,I (-32)),(7, .d .aY),(1,I p),(0,S L)]) ⟨rfl,rfl,rfl,rfl,trivial⟩ ?_
 refine aa.loop (fun m env H=>∃i:Nat,m=64 - i∧i≤64∧((i=0∧env=[(8,I ((i:Int) - 32)),(7, .d .aY),(1,I p),(0,S L)]∧H=[]) ∨
  (0<i∧env=[(8,I ((i:Int) - 32)),(7, .own 1 (bE (dL.take i)) 0),(1,I p),(0,S L)]∧H=[.front 9 1 (bE (dL.take i)).length]))) 64
  ⟨0,rfl,by omega, .inl ⟨rfl,rfl,rfl⟩⟩ ?_
 rintro m env H ⟨i,rfl,hi,hcase⟩
 rcases Nat.lt_or_ge i 64 with hlt|hge
 ·have e:bE (dL.take (i+1))=bE (dL.take i)++[.str (oN ((i:Int) - 32))]:=by rw[BI i hlt,xw,Ed]
  have hln:(bE (dL.take i)).length=i:=by rw[gK,List.length_take];omega
  rcases hcase with⟨hi0,rfl,rfl⟩|⟨h0,rfl,rfl⟩
  ·repeat' (first|refine aa.aD ?_|(apply aa.append;(iterate 11 rfl);(first|rfl|(simp only[List.length_append,List.length_map,List.length_cons,List.length_nil];omega));(first|(simp only[List.length_append,List.length_map,List.length_cons,List.length_nil];omega)|(simp only[List.length_cons,List.length_nil];omega));simp only[List.set_cons_zero,List.set_cons_succ])|(apply aa.gW;(iterate 10 rfl);(first|(simp only[List.length_append,List.length_map,List.length_cons,List.length_nil];omega)|(simp only[List.length_cons,List.length_nil];omega));simp only[List.nil_append,List.cons_append,List.length_nil,List.length_cons,Nat.reduceAdd])|(apply aa.q true;rfl;rfl;rfl;rfl;first|exact True.intro|omega|(simp only[tn,Int.reduceToNat];omega)|(simp only[List.length_cons,List.length_nil];omega))|refine aa.ah (CB _) ?_|refine aa.ae ?_|refine aa.af ?_|refine aa.ai ?_|refine aa.aK ?_|refine aa.aF ?_|intro _|refine aa.av ?_|refine aa.aI ?_)
   refine aa.round [(8,I (((i+1:Nat):Int) - 32)),(7, .own 1 (bE (dL.take (i+1))) 0),(1,I p),(0,S L)] (64 - (i+1)) (by omega) ⟨congrArg I (by omega),?_,rfl,rfl,trivial⟩ ⟨i+1,rfl,hlt, .inr ⟨by omega,rfl,?_⟩⟩
   ·subst hi0;rw[e,Cy];rfl
   ·subst hi0;rw[e,Cy];rfl
  ·repeat' (first|refine aa.aD ?_|(apply aa.append;(iterate 11 rfl);(first|rfl|(simp only[List.length_append,List.length_map,List.length_cons,List.length_nil];omega));(first|(simp only[List.length_append,List.length_map,List.length_cons,List.length_nil];omega)|(simp only[hln,List.length_cons,List.length_nil];omega));simp only[List.set_cons_zero,List.set_cons_succ])|(apply aa.gW;(iterate 10 rfl);(first|(simp only[List.length_append,List.length_map,List.length_cons,List.length_nil];omega)|(simp only[hln,List.length_cons,List.length_nil];omega));simp only[List.nil_append,List.cons_append,List.length_nil,List.length_cons,Nat.reduceAdd])|(apply aa.q true;rfl;rfl;rfl;rfl;first|exact True.intro|omega|(simp only[tn,Int.reduceToNat];omega)|(simp only[hln,List.length_cons,List.length_nil];omega))|refine aa.ah (CB _) ?_|refine aa.ae ?_|refine aa.af ?_|refine aa.ai ?_|refine aa.aK ?_|refine aa.aF ?_|intro _|refine aa.av ?_|refine aa.aI ?_)
   refine aa.round [(8,I (((i+1:Nat):Int) - 32)),(7, .own 1 (bE (dL.take (i+1))) 0),(1,I p),(0,S L)] (64 - (i+1)) (by omega) ⟨congrArg I (by omega),?_,rfl,rfl,trivial⟩ ⟨i+1,rfl,hlt, .inr ⟨by omega,rfl,?_⟩⟩
   ·rw[e]<;>rfl
   ·rw[e]<;>rfl
 ·obtain rfl:i=64:=by omega
  rcases hcase with⟨hi0,rfl,rfl⟩|⟨h0,rfl,rfl⟩
  ·cases hi0
  ·have e:dL.take 64=dL:=List.take_of_length_le (by omega)
   rw[e]
   rcases hx:t5 dL L p 25 1 with⟨x,y,z⟩
   rw[hx]at ht hbd
   simp only at hbd
   by_cases hz:z=0
   ·subst hz
    repeat' (first|refine aa.aD ?_|refine aa.bh true ?_|refine aa.eQ (ht) ?_|refine aa.ae ?_|refine aa.af ?_|refine aa.ai ?_|refine aa.aK ?_|refine aa.aF ?_|intro _|refine aa.av ?_|refine aa.aI ?_)
    all_goals first|omega|exact⟨rfl,rfl⟩
   ·repeat' (first|refine aa.aD ?_|refine aa.bh true ?_|refine aa.eQ (ht) ?_|refine aa.ae ?_|refine aa.af ?_|refine aa.ai ?_|refine aa.aK ?_|refine aa.aF ?_|intro _|refine aa.av ?_|refine aa.aI ?_)
    all_goals first|omega|exact⟨by simp only[D8,if_neg hz],rfl⟩
end Mv
namespace Mv
open Go Bt
attribute [local irreducible] aa ACalls
theorem MQ (s:List UInt8) (p:Nat) (hp:p≤8*s.length):D8 (t5 dL (aS s) p 25 1) p=((mt (ak s p) 0 1).1,((vO p (mt (ak s p) 0 1):Nat):Int),(mt (ak s p) 0 1).2.1):=by
 have h1:=rA dL (aS s) p sJ (by rw[cZ];exact hp)
 have h2:=vI 14 _ _ xb (ak s p) (cO s p)
 rw[iW]at h1
 rw[xV]at h2
 rw[h1]
 generalize mt (ak s p) 0 1=x at *
 generalize cV dL ((ak s p).map bM) []=y at *
 obtain⟨d,e,c⟩:=x
 obtain⟨i,e',c'⟩:=y
 obtain⟨a1,a2,a3⟩:=h2
 change (e,c)=(e',c')at a1
 change e=0→d=i - 32 at a2
 change e≠0→d=0 at a3
 simp only[Prod.mk.injEq]at a1
 obtain⟨rfl,rfl⟩:=a1
 by_cases he:e=0
 ·subst he
  simp[oU,D8,vO,a2]
 ·simp[oU,D8,vO,he,a3]
theorem MU (s:List UInt8) (p:Nat) (hp:p≤8*s.length):(t5 dL (aS s) p 25 1).2.2=0→0≤(t5 dL (aS s) p 25 1).1∧(t5 dL (aS s) p 25 1).1<64:=by
 have h1:=rA dL (aS s) p sJ (by rw[cZ];exact hp)
 have h2:=iR dL ((aS s).drop p) []
 rw[oG]at h2
 rw[h1]
 intro h
 unfold oU at h ⊢
 split at h
 ·rename_i he
  rw[if_pos he]
  exact h2 he
 ·rename_i he
  exact absurd h he
attribute [local irreducible] oN mt t5 ak aS vO D8 dL
end Mv
namespace Mv
open Go Bt
attribute [local irreducible] aa ACalls
attribute [local irreducible] oN mt ak vO vF dx
end Mv
end Go.Proofs.YtbpednchkndocaaGreatDoor.Av
