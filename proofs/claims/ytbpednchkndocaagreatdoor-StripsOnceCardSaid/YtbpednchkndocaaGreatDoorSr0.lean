/- Strips: what sheets are the same, strips as data, strips that may be, strips that are read and written; no program. -/
import Derived.Test.YtbpednchkndocaaGreatDoorSx1
import Derived.Test.YtbpednchkndocaaGreatDoorPq10
import Derived.Test.YtbpednchkndocaaGreatDoorPs2
import Derived.Test.YtbpednchkndocaaGreatDoorPn4
set_option linter.unusedVariables false
set_option linter.unusedSimpArgs false
set_option maxRecDepth 100000
set_option maxHeartbeats 64000000
namespace Go.Proofs.YtbpednchkndocaaGreatDoor.Av
namespace Sr
open Go Bt Sh Co Ci Tc Si
def lsB{α:Type}(f:α→α→Bool):List α→List α→Bool
 |[],[]=>true
 |a::l,b::m=>f a b&&lsB f l m
 |_,_=>false
theorem qd{α:Type}{f:α→α→Bool}:∀l:List α,(∀a∈l,f a a=true)→lsB f l l=true
 |[],_=>rfl
 |a::l,h=>by rw[lsB,h a List.mem_cons_self,qd l (fun x hx=>h x (List.mem_cons_of_mem _ hx))];rfl
theorem tz{α:Type}{f:α→α→Bool}:∀l m:List α,l.length≠m.length→lsB f l m=false
 |[],[],h=>absurd rfl h
 |[],_::_,_=>rfl
 |_::_,[],_=>rfl
 |a::l,b::m,h=>by rw[lsB,tz l m (by simpa using h),Bool.and_false]
theorem tC{α:Type}{f:α→α→Bool}(l m:List α)(i:Nat)(a b:α)(h1:l[i]?=some a)(h2:m[i]?=some b):lsB f (l.drop i) (m.drop i)=(f a b&&lsB f (l.drop (i+1)) (m.drop (i+1))):=by
 have e1:l.drop i=a::l.drop (i+1):=by
  obtain⟨h,rfl⟩:=List.getElem?_eq_some_iff.1 h1;exact List.drop_eq_getElem_cons h
 have e2:m.drop i=b::m.drop (i+1):=by
  obtain⟨h,rfl⟩:=List.getElem?_eq_some_iff.1 h2;exact List.drop_eq_getElem_cons h
 rw[e1,e2,lsB]
theorem vU{α:Type}{f:α→α→Bool}(l m:List α)(h:l.length=m.length):lsB f (l.drop l.length) (m.drop l.length)=true:=by
 rw[List.drop_length,h,List.drop_length];rfl
def rwB(a b:Rw):Bool:=(a.head==b.head)&&(decide (a.id=b.id)&&(decide (a.quant=b.quant)&&lsB Cs.fE a.cells b.cells))
theorem Jb(a:Rw):rwB a a=true:=by
 unfold rwB;rw[qd _ fun c _=>Cs.DW c];simp
structure Sx where
 h:Hd
 rs:List Rw
 z:Int
abbrev sxD(x:Sx):D:=shD x.h (rsD x.rs) x.z
def dS(l:List Sx):List D:=l.map sxD
theorem ju(l:List Sx):(dS l).length=l.length:=by simp[dS]
theorem nI{l:List Sx}{i:Nat}{x:Sx}(h:l[i]?=some x):(dS l).getD (i:Int).toNat .top=sxD x:=by
 simp[dS,List.getD_eq_getElem?_getD,h]
theorem GU(l:List Sx)(i:Nat):(dS l).take i=dS (l.take i):=by simp[dS,List.map_take]
abbrev stD(l:List Sx)(e:Bool):D := .agg [.sl 8 (dS l), .bool e]
def hdB(a b:Hd):Bool:=decide (a.ref=b.ref)&&(decide (a.flags=b.flags)&&(decide (a.fmt=b.fmt)&&((a.inter==b.inter)&&(decide (a.quant=b.quant)&&lsB (fun x y=>decide (x=y)) a.supp b.supp))))
def sxB(a b:Sx):Bool:=hdB a.h b.h&&(decide (a.z=b.z)&&lsB rwB a.rs b.rs)
theorem Ko(a:Hd):hdB a a=true:=by
 unfold hdB;rw[qd (f:=fun x y:Int=>decide (x=y)) a.supp fun x _=>decide_eq_true rfl];simp
theorem wK(a:Sx):sxB a a=true:=by
 unfold sxB;rw[Ko,qd _ fun r _=>Jb r];simp
def stB(a b:List Sx)(e f:Bool):Bool:=(e==f)&&lsB sxB a b
theorem IX(a:List Sx)(e:Bool):stB a a e e=true:=by
 unfold stB;rw[qd _ fun r _=>wK r];simp
def nY(l:List Sx)(h:Hd):Bool:=!h.inter||(match l[l.length-1]? with|some x=>decide (x.h.fmt=h.fmt)|none=>false)
def ckT(l:List Sx):Nat→Int
 |0=>0
 |n+1=>match l[l.length-(n+1)]? with
  |none=>0
  |some x=>if dE x.h x.rs x.z≠0 then dE x.h x.rs x.z else if nY (l.take (l.length-(n+1))) x.h=true then ckT l n else 11
def ckS(l:List Sx):Int:=if l.length<1∨64<l.length then 12 else ckT l l.length
structure Pr where
 l:List Sx
 e:Bool
 at_:Nat
 err:Int
def prE(s:List UInt8)(l:List Sx)(p:Nat):Pr :=
 if p+24=8*s.length∧Mk.gQ s (p+22)=true then ⟨l,true,0,0⟩ else ⟨[],false,p/8,5⟩
def prN(s:List UInt8)(l:List Sx)(p:Nat)(x:Hd×List Rw×Nat×Int×Nat)(k:List Sx→Nat→Pr):Pr :=
 if x.2.2.2.1≠0 then ⟨[],false,p/8,x.2.2.2.1⟩ else if 64≤l.length then ⟨[],false,p/8,13⟩
 else if nY l x.1=true then k (l++[⟨x.1,x.2.1,x.2.2.1⟩]) x.2.2.2.2 else ⟨[],false,p/8,11⟩
def prX(s:List UInt8):Nat→List Sx→Nat→Pr
 |0,_,p=>⟨[],false,p/8,13⟩
 |n+1,l,p =>
  if p=8*s.length then (if l.length=0 then ⟨[],false,p/8,2⟩ else ⟨l,false,0,0⟩)
  else if 0<l.length∧Mk.atB s p=(31,0) then prE s l p
  else prN s l p (Si.shX s p) (prX s n)
def prS(s:List UInt8):Pr:=prX s 66 [] 0
end Sr
namespace Sh
open Go Bt Tc Co
attribute [local irreducible] aa ACalls
variable {gl:List (Nat×List D)}
theorem IL(l:List Int)(k:Nat)(v:Int)(h:l[k]?=some v):(suD l).getD (k:Int).toNat .top=Nn v:=by
 simp[suD,List.getD_eq_getElem?_getD,h]
attribute [local irreducible] Tc.bS suD bD rsD
end Sh
namespace Sr
open Go Bt Sh Co Ci Tc
attribute [local irreducible] aa ACalls aW aK bP aT cK cF cG
variable {gl:List (Nat×List D)}
def yc(l:List Cel):Prop:=l.length≤1000000∧∀c∈l,Cs.uU c
def EL(l:List Rw):Prop:=l.length≤1000000∧∀r∈l,yc r.cells
structure Bq(x:Sx):Prop where
 s:x.h.supp.length≤100
 r:EL x.rs
attribute [local irreducible] bS suD bD rsD dS Cs.fE rwB sxB
theorem GZ(l m:List Int)(hl:l.length≤1000000)(hm:m.length≤1000000):ACalls (cxg gl) 86 [.d (.sl 1 (suD l)), .d (.sl 1 (suD m))] [] (fun r H=>r=B (lsB (fun a b=>decide (a=b)) l m)∧H=[]):=by
 have el:=oC l;have em:=oC m;have gl1:=IL l;have gm1:=IL m;by_cases hlen:l.length=m.length
 ·refine ACalls.en Tryz.func86 Tryz.ntmps86 ?_;repeat (first|refine aa.aF ?_|refine aa.q'k true ?_|refine aa.MJ true ?_|refine aa.aV ?_|refine aa.ah ?_|refine aa.ae ?_|refine aa.aQ ?_|refine aa.bX ?_)
  refine aa.weak (env':=[(13,I ((0:Nat):Int)),(12,I ((suD l).length:Int)),(1, .d (.sl 1 (suD m))),(0, .d (.sl 1 (suD l)))]) ⟨rfl,rfl,rfl,rfl,trivial⟩ ?_;refine aa.loop (fun w env H=>∃i:Nat,w=l.length-i∧i≤l.length∧lsB (fun a b=>decide (a=b)) (l.drop i) (m.drop i)=lsB (fun a b=>decide (a=b)) l m∧env=[(13,I (i:Int)),(12,I ((suD l).length:Int)),(1, .d (.sl 1 (suD m))),(0, .d (.sl 1 (suD l)))]∧H=[]) l.length
   ⟨0,rfl,by omega,rfl,rfl,rfl⟩ ?_
  rintro w env H ⟨i,rfl,hi,hd,rfl,rfl⟩;rcases Nat.lt_or_ge i l.length with hlt|hge
  ·have h1:l[i]?=some l[i]:=List.getElem?_eq_getElem hlt;have h2:m[i]?=some m[i]:=List.getElem?_eq_getElem (by omega);generalize l[i]=a at *;generalize m[i]=b at *;rw[tC l m i a b h1 h2]at hd;have g1:=gl1 i a h1;have g2:=gm1 i b h2;by_cases hE:a=b
   ·rw[decide_eq_true hE,Bool.true_and]at hd;repeat' (first|refine aa.aF ?_|(apply aa.yj;(apply bR;(iterate 7 rfl);(first|omega|(rw[el];omega)|(rw[em];omega));exact g1);rfl;rfl;rfl)|(apply aa.yj;(apply bR;(iterate 7 rfl);(first|omega|(rw[el];omega)|(rw[em];omega));exact g2);rfl;rfl;rfl)|refine aa.q'l true ?_|refine aa.MI true ?_|refine aa.aV ?_|refine aa.ah ?_|refine aa.ae ?_|refine aa.aQ ?_|refine aa.bX ?_|intro _|refine aa.aA ?_|refine aa.aP ?_|refine aa.aJ ?_)
    all_goals first
     |exact aa.round [(13,I ((i+1:Nat):Int)),(12,I ((suD l).length:Int)),(1, .d (.sl 1 (suD m))),(0, .d (.sl 1 (suD l)))] (l.length-(i+1)) (by omega) ⟨rfl,rfl,rfl,rfl,trivial⟩ ⟨i+1,rfl,hlt,hd,rfl,rfl⟩
     |omega
   ·rw[decide_eq_false hE,Bool.false_and]at hd;rw[←hd];repeat' (first|refine aa.aF ?_|(apply aa.yj;(apply bR;(iterate 7 rfl);(first|omega|(rw[el];omega)|(rw[em];omega));exact g1);rfl;rfl;rfl)|(apply aa.yj;(apply bR;(iterate 7 rfl);(first|omega|(rw[el];omega)|(rw[em];omega));exact g2);rfl;rfl;rfl)|refine aa.q'l true ?_|refine aa.MI true ?_|refine aa.aV ?_|refine aa.ah ?_|refine aa.ae ?_|refine aa.aQ ?_|refine aa.bX ?_|intro _|refine aa.aA ?_|refine aa.aP ?_|refine aa.aJ ?_)
    all_goals exact Tn
  ·obtain rfl:i=l.length:=by omega
   have ht:=vU (f:=fun a b:Int=>decide (a=b)) l m hlen;rw[ht]at hd;rw[←hd];repeat' (first|refine aa.aF ?_|refine aa.q'm true ?_|refine aa.Rv true ?_|refine aa.aV ?_|refine aa.ah ?_|refine aa.ae ?_|refine aa.aQ ?_|refine aa.bX ?_|intro _|refine aa.aA ?_|refine aa.aP ?_|refine aa.aJ ?_)
   all_goals exact Tn
 ·rw[tz l m hlen];refine ACalls.en Tryz.func86 Tryz.ntmps86 ?_;repeat' (first|refine aa.aF ?_|refine aa.q'k true ?_|refine aa.MJ true ?_|refine aa.aV ?_|refine aa.ah ?_|refine aa.ae ?_|refine aa.aQ ?_|refine aa.bX ?_|intro _|refine aa.aA ?_|refine aa.aP ?_|refine aa.aJ ?_)
  all_goals exact Tn
theorem HQ(l m:List Cel)(hl:yc l)(hm:yc m):ACalls (cxg gl) 159 [.d (.sl 18 (bD l)), .d (.sl 18 (bD m)), .fn (.func 160) [] []] [] (fun r H=>r=B (lsB Cs.fE l m)∧H=[]):=by
 have el:=ig l;have em:=ig m;have hl0:=hl.1;have hm0:=hm.1;by_cases hlen:l.length=m.length
 ·refine ACalls.en Tryz.func159 Tryz.ntmps159 ?_;repeat (first|refine aa.aF ?_|refine aa.q'k true ?_|refine aa.ah ?_|refine aa.ae ?_|refine aa.aB ?_|refine aa.ak ?_|refine aa.aH ?_|refine aa.aD ?_|refine aa.aQ ?_|refine aa.bX ?_)
  refine aa.weak (env':=[(17,I ((0:Nat):Int)),(16,I ((bD l).length:Int)),(15, .d (.sl 18 (bD l))),(2, .fn (.func 160) [] []),(1, .d (.sl 18 (bD m))),(0, .d (.sl 18 (bD l)))]) ⟨rfl,rfl,rfl,rfl,rfl,rfl,trivial⟩ ?_;refine aa.loop (fun w env H=>∃i:Nat,w=l.length-i∧i≤l.length∧lsB Cs.fE (l.drop i) (m.drop i)=lsB Cs.fE l m∧env=[(17,I (i:Int)),(16,I ((bD l).length:Int)),(15, .d (.sl 18 (bD l))),(2, .fn (.func 160) [] []),(1, .d (.sl 18 (bD m))),(0, .d (.sl 18 (bD l)))]∧H=[]) l.length
   ⟨0,rfl,by omega,rfl,rfl,rfl⟩ ?_
  rintro w env H ⟨i,rfl,hi,hd,rfl,rfl⟩;rcases Nat.lt_or_ge i l.length with hlt|hge
  ·have h1:l[i]?=some l[i]:=List.getElem?_eq_getElem hlt;have h2:m[i]?=some m[i]:=List.getElem?_eq_getElem (by omega);generalize l[i]=a at *;generalize m[i]=b at *;rw[tC l m i a b h1 h2]at hd;have g1:=kT h1;have g2:=kT h2;have cl:=Cs.NV (gl:=gl) a b (hl.2 a (List.mem_of_getElem? h1)) (hm.2 b (List.mem_of_getElem? h2));cases hE:Cs.fE a b with
   | true =>
    rw[hE]at cl;rw[hE,Bool.true_and]at hd;repeat' (first|refine aa.aF ?_|refine aa.yN ?_|refine aa.yM ?_|refine aa.q'l true ?_|refine aa.av (cl) ?_|refine aa.ah ?_|refine aa.ae ?_|refine aa.aB ?_|refine aa.ak ?_|refine aa.aH ?_|refine aa.aD ?_|refine aa.aQ ?_|refine aa.bX ?_|intro _|refine aa.aA ?_|refine aa.aP ?_|refine aa.aJ ?_)
    all_goals first
     |exact aa.jr 0 [(17,I ((i+1:Nat):Int)),(16,I ((bD l).length:Int)),(15, .d (.sl 18 (bD l))),(2, .fn (.func 160) [] []),(1, .d (.sl 18 (bD m))),(0, .d (.sl 18 (bD l)))] (l.length-(i+1)) (by omega) rfl rfl rfl rfl ⟨rfl,rfl,rfl,rfl,rfl,rfl,trivial⟩ ⟨i+1,rfl,hlt,hd,rfl,rfl⟩
     |omega
   |false =>
    rw[hE]at cl;rw[hE,Bool.false_and]at hd;rw[←hd];repeat' (first|refine aa.aF ?_|refine aa.yN ?_|refine aa.yM ?_|refine aa.q'l true ?_|refine aa.av (cl) ?_|refine aa.ah ?_|refine aa.ae ?_|refine aa.aB ?_|refine aa.ak ?_|refine aa.aH ?_|refine aa.aD ?_|refine aa.aQ ?_|refine aa.bX ?_|intro _|refine aa.aA ?_|refine aa.aP ?_|refine aa.aJ ?_)
    all_goals exact Tn
  ·obtain rfl:i=l.length:=by omega
   have ht:=vU (f:=Cs.fE) l m hlen;rw[ht]at hd;rw[←hd];repeat' (first|refine aa.aF ?_|refine aa.q'm true ?_|refine aa.ah ?_|refine aa.ae ?_|refine aa.aB ?_|refine aa.ak ?_|refine aa.aH ?_|refine aa.aD ?_|refine aa.aQ ?_|refine aa.bX ?_|intro _|refine aa.aA ?_|refine aa.aP ?_|refine aa.aJ ?_)
   all_goals exact Tn
 ·rw[tz l m hlen];refine ACalls.en Tryz.func159 Tryz.ntmps159 ?_;repeat' (first|refine aa.aF ?_|refine aa.q'k true ?_|refine aa.ah ?_|refine aa.ae ?_|refine aa.aB ?_|refine aa.ak ?_|refine aa.aH ?_|refine aa.aD ?_|refine aa.aQ ?_|refine aa.bX ?_|intro _|refine aa.aA ?_|refine aa.aP ?_|refine aa.aJ ?_)
  all_goals exact Tn
theorem DX(a b:Rw)(ha:yc a.cells)(hb:yc b.cells):ACalls (cxg gl) 88 [.d (rwD a), .d (rwD b)] [] (fun r H=>r=B (rwB a b)∧H=[]):=by
 have ec:=HQ (gl:=gl) a.cells b.cells ha hb;obtain⟨h,i,q,cs⟩:=a;obtain⟨h',i',q',cs'⟩:=b;simp only at ec;refine ACalls.en Tryz.func88 Tryz.ntmps88 ?_;repeat' (first|refine aa.aF ?_|refine aa.bh true ?_|refine aa.av (ec) ?_|refine aa.aM ?_|refine aa.au ?_|refine aa.aC ?_|intro _|(apply aa.gD;rfl;rfl;rfl)|refine aa.aA ?_)
 all_goals first|exact⟨rfl,rfl⟩|exact⟨congrArg B (by simp_all [rwB]),rfl⟩|omega
theorem KP(l m:List Rw)(hl:EL l)(hm:EL m):ACalls (cxg gl) 87 [.d (.sl 4 (rsD l)), .d (.sl 4 (rsD m)), .fn (.func 88) [] []] [] (fun r H=>r=B (lsB rwB l m)∧H=[]):=by
 have el:=ko l;have em:=ko m;have hl0:=hl.1;have hm0:=hm.1;by_cases hlen:l.length=m.length
 ·refine ACalls.en Tryz.func87 Tryz.ntmps87 ?_;repeat (first|refine aa.aF ?_|refine aa.q'k true ?_|refine aa.ah ?_|refine aa.ae ?_|refine aa.aB ?_|refine aa.ak ?_|refine aa.aH ?_|refine aa.aD ?_|refine aa.aQ ?_|refine aa.bX ?_)
  refine aa.weak (env':=[(17,I ((0:Nat):Int)),(16,I ((rsD l).length:Int)),(15, .d (.sl 4 (rsD l))),(2, .fn (.func 88) [] []),(1, .d (.sl 4 (rsD m))),(0, .d (.sl 4 (rsD l)))]) ⟨rfl,rfl,rfl,rfl,rfl,rfl,trivial⟩ ?_;refine aa.loop (fun w env H=>∃i:Nat,w=l.length-i∧i≤l.length∧lsB rwB (l.drop i) (m.drop i)=lsB rwB l m∧env=[(17,I (i:Int)),(16,I ((rsD l).length:Int)),(15, .d (.sl 4 (rsD l))),(2, .fn (.func 88) [] []),(1, .d (.sl 4 (rsD m))),(0, .d (.sl 4 (rsD l)))]∧H=[]) l.length
   ⟨0,rfl,by omega,rfl,rfl,rfl⟩ ?_
  rintro w env H ⟨i,rfl,hi,hd,rfl,rfl⟩;rcases Nat.lt_or_ge i l.length with hlt|hge
  ·have h1:l[i]?=some l[i]:=List.getElem?_eq_getElem hlt;have h2:m[i]?=some m[i]:=List.getElem?_eq_getElem (by omega);generalize l[i]=a at *;generalize m[i]=b at *;rw[tC l m i a b h1 h2]at hd;have g1:=oH h1;have g2:=oH h2;have cl:=DX (gl:=gl) a b (hl.2 a (List.mem_of_getElem? h1)) (hm.2 b (List.mem_of_getElem? h2));cases hE:rwB a b with
   | true =>
    rw[hE]at cl;rw[hE,Bool.true_and]at hd;repeat' (first|refine aa.aF ?_|refine aa.yN ?_|refine aa.yM ?_|refine aa.q'l true ?_|refine aa.av (cl) ?_|refine aa.ah ?_|refine aa.ae ?_|refine aa.aB ?_|refine aa.ak ?_|refine aa.aH ?_|refine aa.aD ?_|refine aa.aQ ?_|refine aa.bX ?_|intro _|refine aa.aA ?_|refine aa.aP ?_|refine aa.aJ ?_)
    all_goals first
     |exact aa.jr 0 [(17,I ((i+1:Nat):Int)),(16,I ((rsD l).length:Int)),(15, .d (.sl 4 (rsD l))),(2, .fn (.func 88) [] []),(1, .d (.sl 4 (rsD m))),(0, .d (.sl 4 (rsD l)))] (l.length-(i+1)) (by omega) rfl rfl rfl rfl ⟨rfl,rfl,rfl,rfl,rfl,rfl,trivial⟩ ⟨i+1,rfl,hlt,hd,rfl,rfl⟩
     |omega
   |false =>
    rw[hE]at cl;rw[hE,Bool.false_and]at hd;rw[←hd];repeat' (first|refine aa.aF ?_|refine aa.yN ?_|refine aa.yM ?_|refine aa.q'l true ?_|refine aa.av (cl) ?_|refine aa.ah ?_|refine aa.ae ?_|refine aa.aB ?_|refine aa.ak ?_|refine aa.aH ?_|refine aa.aD ?_|refine aa.aQ ?_|refine aa.bX ?_|intro _|refine aa.aA ?_|refine aa.aP ?_|refine aa.aJ ?_)
    all_goals exact Tn
  ·obtain rfl:i=l.length:=by omega
   have ht:=vU (f:=rwB) l m hlen;rw[ht]at hd;rw[←hd];repeat' (first|refine aa.aF ?_|refine aa.q'm true ?_|refine aa.ah ?_|refine aa.ae ?_|refine aa.aB ?_|refine aa.ak ?_|refine aa.aH ?_|refine aa.aD ?_|refine aa.aQ ?_|refine aa.bX ?_|intro _|refine aa.aA ?_|refine aa.aP ?_|refine aa.aJ ?_)
   all_goals exact Tn
 ·rw[tz l m hlen];refine ACalls.en Tryz.func87 Tryz.ntmps87 ?_;repeat' (first|refine aa.aF ?_|refine aa.q'k true ?_|refine aa.ah ?_|refine aa.ae ?_|refine aa.aB ?_|refine aa.ak ?_|refine aa.aH ?_|refine aa.aD ?_|refine aa.aQ ?_|refine aa.bX ?_|intro _|refine aa.aA ?_|refine aa.aP ?_|refine aa.aJ ?_)
  all_goals exact Tn
theorem zQ(a b:Sx)(ha:Bq a)(hb:Bq b):ACalls (cxg gl) 28 [.d (sxD a), .d (sxD b)] [] (fun r H=>r=B (sxB a b)∧H=[]):=by
 have e1:=GZ (gl:=gl) a.h.supp b.h.supp (by have:=ha.s;omega) (by have:=hb.s;omega);have e2:=KP (gl:=gl) a.rs b.rs ha.r hb.r;obtain⟨⟨ar,af,am,ai,aq,asu⟩,rs,z⟩:=a;obtain⟨⟨br,bf,bm,bi,bq,bsu⟩,rs',z'⟩:=b;simp only at e1 e2;refine ACalls.en Tryz.func28 Tryz.ntmps28 ?_;repeat' (first|refine aa.aF ?_|refine aa.bh true ?_|refine aa.av (e1) ?_|refine aa.av (e2) ?_|refine aa.aM ?_|refine aa.au ?_|refine aa.aC ?_|intro _|(apply aa.gD;rfl;rfl;rfl)|(apply aa.gS;rfl;rfl;rfl)|refine aa.aA ?_)
 all_goals first|exact⟨rfl,rfl⟩|exact⟨congrArg B (by simp_all [sxB,hdB]),rfl⟩|omega
def uT(l:List Sx):Prop:=l.length≤1000000∧∀x∈l,Bq x
theorem Ey(l m:List Sx)(hl:uT l)(hm:uT m):ACalls (cxg gl) 125 [.d (.sl 8 (dS l)), .d (.sl 8 (dS m)), .fn (.func 28) [] []] [] (fun r H=>r=B (lsB sxB l m)∧H=[]):=by
 have el:=ju l;have em:=ju m;have hl0:=hl.1;have hm0:=hm.1;by_cases hlen:l.length=m.length
 ·refine ACalls.en Tryz.func125 Tryz.ntmps125 ?_;repeat (first|refine aa.aF ?_|refine aa.q'k true ?_|refine aa.ah ?_|refine aa.ae ?_|refine aa.aB ?_|refine aa.ak ?_|refine aa.aH ?_|refine aa.aD ?_|refine aa.aQ ?_|refine aa.bX ?_)
  refine aa.weak (env':=[(17,I ((0:Nat):Int)),(16,I ((dS l).length:Int)),(15, .d (.sl 8 (dS l))),(2, .fn (.func 28) [] []),(1, .d (.sl 8 (dS m))),(0, .d (.sl 8 (dS l)))]) ⟨rfl,rfl,rfl,rfl,rfl,rfl,trivial⟩ ?_;refine aa.loop (fun w env H=>∃i:Nat,w=l.length-i∧i≤l.length∧lsB sxB (l.drop i) (m.drop i)=lsB sxB l m∧env=[(17,I (i:Int)),(16,I ((dS l).length:Int)),(15, .d (.sl 8 (dS l))),(2, .fn (.func 28) [] []),(1, .d (.sl 8 (dS m))),(0, .d (.sl 8 (dS l)))]∧H=[]) l.length
   ⟨0,rfl,by omega,rfl,rfl,rfl⟩ ?_
  rintro w env H ⟨i,rfl,hi,hd,rfl,rfl⟩;rcases Nat.lt_or_ge i l.length with hlt|hge
  ·have h1:l[i]?=some l[i]:=List.getElem?_eq_getElem hlt;have h2:m[i]?=some m[i]:=List.getElem?_eq_getElem (by omega);generalize l[i]=a at *;generalize m[i]=b at *;rw[tC l m i a b h1 h2]at hd;have g1:=nI h1;have g2:=nI h2;have cl:=zQ (gl:=gl) a b (hl.2 a (List.mem_of_getElem? h1)) (hm.2 b (List.mem_of_getElem? h2));cases hE:sxB a b with
   | true =>
    rw[hE]at cl;rw[hE,Bool.true_and]at hd;repeat' (first|refine aa.aF ?_|refine aa.yN ?_|refine aa.yM ?_|refine aa.q'l true ?_|refine aa.av (cl) ?_|refine aa.ah ?_|refine aa.ae ?_|refine aa.aB ?_|refine aa.ak ?_|refine aa.aH ?_|refine aa.aD ?_|refine aa.aQ ?_|refine aa.bX ?_|intro _|refine aa.aA ?_|refine aa.aP ?_|refine aa.aJ ?_)
    all_goals first
     |exact aa.jr 0 [(17,I ((i+1:Nat):Int)),(16,I ((dS l).length:Int)),(15, .d (.sl 8 (dS l))),(2, .fn (.func 28) [] []),(1, .d (.sl 8 (dS m))),(0, .d (.sl 8 (dS l)))] (l.length-(i+1)) (by omega) rfl rfl rfl rfl ⟨rfl,rfl,rfl,rfl,rfl,rfl,trivial⟩ ⟨i+1,rfl,hlt,hd,rfl,rfl⟩
     |omega
   |false =>
    rw[hE]at cl;rw[hE,Bool.false_and]at hd;rw[←hd];repeat' (first|refine aa.aF ?_|refine aa.yN ?_|refine aa.yM ?_|refine aa.q'l true ?_|refine aa.av (cl) ?_|refine aa.ah ?_|refine aa.ae ?_|refine aa.aB ?_|refine aa.ak ?_|refine aa.aH ?_|refine aa.aD ?_|refine aa.aQ ?_|refine aa.bX ?_|intro _|refine aa.aA ?_|refine aa.aP ?_|refine aa.aJ ?_)
    all_goals exact Tn
  ·obtain rfl:i=l.length:=by omega
   have ht:=vU (f:=sxB) l m hlen;rw[ht]at hd;rw[←hd];repeat' (first|refine aa.aF ?_|refine aa.q'm true ?_|refine aa.ah ?_|refine aa.ae ?_|refine aa.aB ?_|refine aa.ak ?_|refine aa.aH ?_|refine aa.aD ?_|refine aa.aQ ?_|refine aa.bX ?_|intro _|refine aa.aA ?_|refine aa.aP ?_|refine aa.aJ ?_)
   all_goals exact Tn
 ·rw[tz l m hlen];refine ACalls.en Tryz.func125 Tryz.ntmps125 ?_;repeat' (first|refine aa.aF ?_|refine aa.q'k true ?_|refine aa.ah ?_|refine aa.ae ?_|refine aa.aB ?_|refine aa.ak ?_|refine aa.aH ?_|refine aa.aD ?_|refine aa.aQ ?_|refine aa.bX ?_|intro _|refine aa.aA ?_|refine aa.aP ?_|refine aa.aJ ?_)
  all_goals exact Tn
theorem IM(l m:List Sx)(e f:Bool)(hl:uT l)(hm:uT m):ACalls (cxg gl) 54 [.d (stD l e), .d (stD m f)] [] (fun r H=>r=B (stB l m e f)∧H=[]):=by
 have es:=Ey (gl:=gl) l m hl hm;unfold stB;cases h:e==f with
 |true =>
  obtain rfl:e=f:=by simpa using h
  refine ACalls.en Tryz.func54 Tryz.ntmps54 ?_;repeat' (first|refine aa.aF ?_|refine aa.bh true ?_|refine aa.av (es) ?_|refine aa.aM ?_|refine aa.au ?_|refine aa.cf ?_|refine aa.aC ?_|intro _|(apply aa.gD;rfl;rfl;rfl)|refine aa.aA ?_)
  all_goals first|exact⟨rfl,rfl⟩|exact⟨congrArg B (by simp_all),rfl⟩|(exfalso;simp_all;done)
 |false =>
  refine ACalls.en Tryz.func54 Tryz.ntmps54 ?_;repeat' (first|refine aa.aF ?_|refine aa.bh true ?_|refine aa.av (es) ?_|refine aa.aM ?_|refine aa.au ?_|refine aa.cf ?_|refine aa.aC ?_|intro _|(apply aa.gD;rfl;rfl;rfl)|refine aa.aA ?_)
  all_goals first|exact⟨rfl,rfl⟩|exact⟨congrArg B (by simp_all),rfl⟩|(exfalso;simp_all;done)
end Sr
end Go.Proofs.YtbpednchkndocaaGreatDoor.Av
