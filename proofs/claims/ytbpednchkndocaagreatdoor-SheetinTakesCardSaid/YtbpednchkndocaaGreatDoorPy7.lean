/- mcbpc: table, Take. mcbpc: the reference's Row; the rows. -/
import Derived.Test.YtbpednchkndocaaGreatDoorCo1
import Derived.Test.YtbpednchkndocaaGreatDoorPq4
set_option linter.unusedVariables false
set_option linter.unusedSimpArgs false
set_option maxRecDepth 100000
set_option maxHeartbeats 64000000
namespace Go.Proofs.YtbpednchkndocaaGreatDoor.Av
namespace Mb
open Go Bt Px
attribute [local irreducible] aa ACalls
variable {gl:List (Nat×List D)}
def nO (b:Bool) (k:Nat):List (List UInt8×Int):=(gq b k).zipIdx.map fun x=>(x.1,10*(k:Int)+(x.2:Int))
def Jk (b:Bool):Nat→List D
 |0=>[]
 |k+1=>Jk b k++bG (nO b k)
def jy (b:Bool):List (List UInt8×Int):=nO b 0++nO b 1++nO b 2++nO b 3++nO b 4++nO b 5
theorem GA (b:Bool):Jk b 6=bG (jy b):=by cases b<;>rfl
theorem Jj:∀b:Bool,∀k:_root_.Fin 6,(Jk b k.val).length≤30:=by decide +kernel
theorem Mf (b:Bool) (k:Nat) (hk:k≤5) (es:List D) (he:es.length≤1000):ACalls (cxg gsp) 313 [I k, .ptr 0 0, .ptr 1 0] [.cells [B b], .cells [.ms 2 es.length], .arr 321 2 es]
  (fun r H=>r = .bK []∧H=[.cells [B b], .cells [.ms 2 (es++bG (nO b k)).length], .arr 321 2 (es++bG (nO b k))]):=by
 have r1:=Cx (gl:=gsp) b k
 have f1:=Aa b k
 unfold fg at f1
 rcases (show k=0∨k=1∨k=2∨k=3∨k=4∨k=5 by omega)with rfl|rfl|rfl|rfl|rfl|rfl
 all_goals cases b
 all_goals
  refine ACalls.en Tryz.func313 Tryz.ntmps313 ?_
  repeat' (first|refine aa.aD ?_|(apply aa.q true;rfl;rfl;rfl;rfl;first|exact True.intro|omega|(simp only[tn,Int.reduceToNat];omega)|(decide))|refine aa.az [] ( f1) ?_|refine aa.ah (r1) ?_|refine aa.aW ?_|refine aa.au ?_|refine aa.ai ?_|refine aa.aA ?_|refine aa.aL ?_|refine aa.aF ?_|refine aa.li ?_|(apply aa.lM;(iterate 11 rfl);(first|rfl|(simp only[List.length_append,List.length_map,List.length_set,List.length_replicate,List.length_cons,List.length_nil];omega)|(decide));(first|(simp only[List.length_append,List.length_map,List.length_cons,List.length_nil];omega)|(decide));simp only[List.set_cons_zero,List.set_cons_succ])|apply aa.cK|apply aa.lpU|intro _)
  all_goals first|exact⟨rfl,rfl⟩|exact⟨rfl,by simp only[List.append_assoc];rfl⟩|exact⟨rfl,by rw[show bG (nO _ _)=([]:List D) from rfl,List.append_nil];rfl⟩
def mbT (b:Bool):Tb:=(mk (jy b) tb0).getD tb0
theorem GG (b:Bool):mk (jy b) tb0=some (mbT b):=by
 have:(mk (jy b) tb0).isSome=true:=by cases b<;>decide +kernel
 unfold mbT
 cases h:mk (jy b) tb0 with
 |none=>rw[h]at this;cases this
 |some T=>rfl
theorem BK (b:Bool):sZ (mbT b) (jy b):=Gs (GG b)
def mb0 (b:Bool):List UInt8×Int:=(jy b).getD 0 ([],0)
theorem LM (b:Bool):(jy b)[0]?=some (mb0 b):=by cases b<;>rfl
theorem GJ (b:Bool):(jy b).length≤256:=by cases b<;>decide
theorem BM (b:Bool):∀p∈jy b,p.1.length≤1000000:=by cases b<;>decide
def IB (b:Bool):List aM:=[.cells [B b], .cells [.ms 2 (bG (jy b)).length], .front 321 2 (bG (jy b)).length, .map (cz (mbT b).sym), .map (eM (mbT b).rws), .map (cz (mbT b).beg),
 .cells [.own 2 (bG (mbT b).codes) 9, .mp 3, .mp 4, .mp 5,I (mbT b).lng], .cells (wR (mb0 b)), .cells (wR (mb0 b)), .front 321 2 (bG (mbT b).codes).length]
attribute [local irreducible] cz eM bG mbT nO jy mb0
theorem Eo (b:Bool):ACalls (cxg gsp) 304 [B b] [] (fun r H=>r = .ptr 6 0∧H=IB b):=by
 have mk:=CZ (gl:=gsp) (jy b) (mb0 b) (mbT b) (LM b) (GJ b) (BM b) (GG b)
 rw[←GA]at mk
 unfold IB
 rw[←GA]
 have e:=fun (k:_root_.Fin 6)=>Mf b k.val (by omega) (Jk b k.val) (by have:=Jj b k;omega)
 have e0:=e 0
 have e1:=e 1
 have e2:=e 2
 have e3:=e 3
 have e4:=e 4
 have e5:=e 5
 unfold DV at mk
 refine ACalls.en Tryz.func304 Tryz.ntmps304 ?_
 repeat' (first|refine aa.aD ?_|refine aa.bh true ?_|refine aa.az [0,1,2] ( e0) ?_|refine aa.az [0,1,2] ( e1) ?_|refine aa.az [0,1,2] ( e2) ?_|refine aa.az [0,1,2] ( e3) ?_|refine aa.az [0,1,2] ( e4) ?_|refine aa.az [0,1,2] ( e5) ?_|refine aa.AB [] ( mk) ?_|refine aa.aW ?_|refine aa.ae ?_|refine aa.af ?_|refine aa.aG ?_|refine aa.ba ?_|refine aa.Ha 1 0 321 2 ?_|refine aa.mi 17 ?_|apply aa.cK|apply aa.lpU|intro _)
 (apply aa.xB 10;rfl;rfl;rfl;rfl;rfl)
 exact⟨rfl,rfl⟩
def iF (b:Bool):List (List UInt8):=(jy b).map (·.1)
def mbX (b:Bool) (Dg:List UInt8):Int×Int×Int×Nat :=
  if (cV (iF b) Dg []).2.1=0 then
    (if ((cV (iF b) Dg []).1+(if b=true then 0 else 12)) / 4=2 then (0,0,6,0)
     else (((cV (iF b) Dg []).1+(if b=true then 0 else 12)) / 4,((cV (iF b) Dg []).1+(if b=true then 0 else 12))%4,0,(cV (iF b) Dg []).2.2))
  else (0,0,(cV (iF b) Dg []).2.1,0)
def pM (p:Nat) (x:Int×Int×Int×Nat):Nat:=if x.2.2.1=0 then p+x.2.2.2 else p
theorem nN (b:Bool):(iF b).length=if b=true then 21 else 9:=by unfold iF jy;cases b<;>decide +kernel
theorem LK (b:Bool) (i:Int) (h:0≤i∧i<(iF b).length):(0≤lF (mbT b) i∧lF (mbT b) i≤60)∧lF (mbT b) i / 10=(i+(if b=true then 0 else 12)) / 4∧lF (mbT b) i%10=(i+(if b=true then 0 else 12))%4:=by
 rw[nN]at h
 have hs:lF (mbT b) i=((jy b).getD i.toNat ([],0)).2:=by unfold lF;rw[(BK b).codes]
 rw[hs]
 obtain⟨n,rfl⟩:=Int.eq_ofNat_of_zero_le h.1
 rw[Int.toNat_natCast]
 cases b with
 |true =>
  have key:∀i:_root_.Fin 21,(0≤((jy true).getD i.val ([],0)).2∧((jy true).getD i.val ([],0)).2≤60)∧((jy true).getD i.val ([],0)).2 / 10=((i.val:Int)+0) / 4∧((jy true).getD i.val ([],0)).2%10=((i.val:Int)+0)%4:=by unfold jy;decide +kernel
  exact key ⟨n,by simp only[if_true]at h;omega⟩
 |false =>
  have key:∀i:_root_.Fin 9,(0≤((jy false).getD i.val ([],0)).2∧((jy false).getD i.val ([],0)).2≤60)∧((jy false).getD i.val ([],0)).2 / 10=((i.val:Int)+12) / 4∧((jy false).getD i.val ([],0)).2%10=((i.val:Int)+12)%4:=by unfold jy;decide +kernel
  exact key ⟨n,by simp only[Bool.false_eq_true,if_false]at h;omega⟩
theorem uD (rows:List (List UInt8)):∀(D w:List UInt8),(cV rows D w).2.1=0∨(cV rows D w).2.1=2∨(cV rows D w).2.1=3
 |[],w=>by simp[cV]
 |x::r,w=>by
  rw[cV]
  cases iH rows w x with
  |done i c=>simp
  |fail=>simp
  |next w'=>exact uD rows r w'
attribute [local irreducible] ak qm iF IB
theorem Gz (b:Bool) (s:List UInt8) (p:Nat) (hs:s.length≤1000000) (hp:p≤8*s.length):ACalls (cxg gsp) 291 [.ptr 0 0,B b] [Rd s p]
  (fun r H=>r = .bK [I (mbX b ((ak s p).map bM)).1,I (mbX b ((ak s p).map bM)).2.1,I (mbX b ((ak s p).map bM)).2.2.1]∧H=[Rd s (pM p (mbX b ((ak s p).map bM)))]):=by
 have tb:=Eo b
 have a0:=qX (gl:=gsp) s p
 have tt:=Cm (gl:=gsp) (mbT b) s p hs hp (BK b).Ke
 rw[pz (BK b),show (jy b).map (·.1)=iF b by unfold iF;rfl]at tt
 have he:=uD (iF b) ((ak s p).map bM) []
 have hb:=iR (iF b) ((ak s p).map bM) []
 unfold mbX
 generalize cV (iF b) ((ak s p).map bM) []=y at *
 obtain⟨i,e,c⟩:=y
 simp only at he hb tt ⊢
 unfold IB at tb
 by_cases h0:e=0
 ·obtain⟨hs0,hs1,hs2⟩:=LK b i (hb h0)
  rw[if_pos h0]at tt
  rw[if_pos h0,←hs1,←hs2]
  generalize lF (mbT b) i=sy at *
  subst h0
  unfold qm at tt
  simp only[if_true]at tt
  by_cases h2:sy / 10=2
  ·rw[if_pos h2]
   have sk:=fG (gl:=gsp) s ((p+c:Nat):Int) p (by omega) ⟨by omega,by omega⟩
   refine ACalls.en Tryz.func291 Tryz.ntmps291 ?_
   repeat' (first|refine aa.aD ?_|refine aa.bh true ?_|refine aa.az [0] ( a0) ?_|refine aa.az [] ( tb) ?_|refine aa.az [4,5,6,7,0,10] ( tt) ?_|refine aa.az [0] ( sk) ?_|refine aa.ae ?_|refine aa.af ?_|refine aa.ai ?_|refine aa.aK ?_|intro _|refine aa.av ?_)
   all_goals first|exact⟨rfl,rfl⟩
  ·rw[if_neg h2]
   unfold pM
   simp only[if_true]
   refine ACalls.en Tryz.func291 Tryz.ntmps291 ?_
   repeat' (first|refine aa.aD ?_|refine aa.bh true ?_|refine aa.az [0] ( a0) ?_|refine aa.az [] ( tb) ?_|refine aa.az [4,5,6,7,0,10] ( tt) ?_|refine aa.ae ?_|refine aa.af ?_|refine aa.ai ?_|refine aa.aK ?_|intro _|refine aa.av ?_)
   all_goals first|exact⟨rfl,rfl⟩
 ·rw[if_neg h0]
  rw[if_neg h0]at tt
  unfold pM
  unfold qm at tt
  simp only[if_neg h0]at tt ⊢
  refine ACalls.en Tryz.func291 Tryz.ntmps291 ?_
  repeat' (first|refine aa.aD ?_|refine aa.bh true ?_|refine aa.az [0] ( a0) ?_|refine aa.az [] ( tb) ?_|refine aa.az [4,5,6,7,0,10] ( tt) ?_|refine aa.ae ?_|refine aa.af ?_|refine aa.ai ?_|refine aa.aK ?_|intro _|refine aa.av ?_)
  all_goals first|exact⟨rfl,rfl⟩
end Mb
section
open Go
end
namespace Mb
open Go Bt
attribute [local irreducible] aa ACalls
variable {gl:List (Nat×List D)}
def xY (b:Bool):List (List UInt8):=if b=true then wdI.flatten else List.replicate 12 []++wdJ.flatten
theorem FU (b:Bool):ACalls (cxg gl) 237 [B b] [] (fun r H=>r = .d (.sl 1 (bE (xY b)))∧H=[]):=by
 cases b
 all_goals
  unfold bE xY
  refine ACalls.en Tryz.func237 Tryz.ntmps237 ?_
  repeat' (first|refine aa.aD ?_|refine aa.bh true ?_|refine aa.au ?_|refine aa.ai ?_|refine aa.aF ?_|intro _|refine aa.av ?_)
  all_goals first|exact⟨rfl,rfl⟩
theorem zX:∀b:Bool,∀k:_root_.Fin 6,(gq b k.val).length≤4∧(k.val=5→(gq b k.val).length≤1):=by unfold gq;decide +kernel
theorem tN (b:Bool) (k c:Int) (h:l9 b k c=true):(0≤k∧k≤5)∧0≤c∧c≤3:=by
 unfold l9 at h
 rw[decide_eq_true_eq]at h
 by_cases hk:k<0∨5<k
 ·have:gq b k=[]:=by unfold gq;rw[if_pos hk]
  rw[this]at h;simp at h;omega
 ·obtain⟨h1,h2⟩:=zX b ⟨k.toNat,by omega⟩
  simp only at h1
  rw[show ((k.toNat:Nat):Int)=k by omega]at h1
  omega
theorem GH:∀b:Bool,∀k:_root_.Fin 6,∀c:_root_.Fin 4,l9 b k.val c.val=true→fT b k.val c.val≠[]∧(fT b k.val c.val).length≤9∧(fT b k.val c.val).all bZ=true:=by decide +kernel
theorem qz (b:Bool) (k c:Int) (h:l9 b k c=true):fT b k c≠[]∧(fT b k c).length≤9∧(fT b k c).all bZ=true:=by
 obtain⟨hk,hc⟩:=tN b k c h
 have:=GH b ⟨k.toNat,by omega⟩ ⟨c.toNat,by omega⟩
 simp only at this
 rw[show ((k.toNat:Nat):Int)=k by omega,show ((c.toNat:Nat):Int)=c by omega]at this
 exact this h
attribute [local irreducible] bE xY fT
end Mb
end Go.Proofs.YtbpednchkndocaaGreatDoor.Av
