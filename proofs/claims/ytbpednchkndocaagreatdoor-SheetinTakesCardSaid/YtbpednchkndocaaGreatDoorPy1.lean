/- Marks are read: the reader's Fill, Text and Left; marks.At, Zeros and Next, walked. Marks: numbers of rows of bits, no program. Marks: the document's answers, walked. Heads of rows are read: rowhead.Take and the document's answer, walked. Heads of rows are read: rowhead.Take; the document's answer, walked. Heads of rows: the document's answer, walked. Heads of sheets are read: the mark. -/
import Derived.Test.YtbpednchkndocaaGreatDoorPq1
set_option linter.unusedVariables false
set_option linter.unusedSimpArgs false
set_option maxRecDepth 100000
set_option maxHeartbeats 64000000
namespace Go.Proofs.YtbpednchkndocaaGreatDoor.Av
namespace Mk
open Go Bt
attribute [local irreducible] aa ACalls
variable {gl:List (Nat×List D)}
theorem Aw (s:List UInt8) (p:Int):ACalls (cxg gl) 200 [.ptr 0 0] [Rd s p] (fun r H=>r=S s∧H=[Rd s p]):=by
 refine ACalls.en Tryz.func200 Tryz.ntmps200 ?_
 repeat' (first|intro _|refine aa.bA ?_)
 all_goals first|exact⟨rfl,rfl⟩
theorem LR (s:List UInt8) (p:Nat) (hs:s.length<1000000000000000) (hp:p≤8*s.length):ACalls (cxg gl) 29 [.ptr 0 0] [Rd s p] (fun r H=>r=I (8*(s.length:Int) - (p:Int))∧H=[Rd s p]):=by
 refine ACalls.en Tryz.func29 Tryz.ntmps29 ?_
 repeat' (first|intro _|refine aa.aR ?_)
 all_goals first|exact⟨rfl,rfl⟩|omega
def bv (p:Nat):Nat:=(8 - p%8)%8
theorem jJ (s:List UInt8) (p:Nat) (h:p≤8*s.length):p+bv p≤8*s.length:=by unfold bv;omega
def gH (s:List UInt8) (p:Nat):Bool:=nB ((af s p).take (bv p))==0
theorem Bs (s:List UInt8) (p:Nat) (hs:s.length<1000000000000000) (hp:p≤8*s.length):ACalls (cxg gl) 128 [.ptr 0 0] [Rd s p] (fun r H=>r=BC (if gH s p then ((bv p:Nat),0) else (0,5))∧H=[Rd s ((if gH s p then p+bv p else p:Nat):Int)]):=by
 have hle:=jJ s p hp
 have pk:=Cm (gl:=gl) s p (bv p) hs hp (by unfold bv;omega)
 unfold pkN at pk
 rw[if_neg (by omega)]at pk
 have hn:((bv p:Nat):Int)=(8 - (p:Int)%8)%8:=by unfold bv;omega
 unfold gH
 generalize nB ((af s p).take (bv p))=V at *
 rw[hn]at pk
 by_cases hv:V=0
 ·subst hv
  simp only[beq_self_eq_true,if_true]
  refine ACalls.en Tryz.func128 Tryz.ntmps128 ?_
  repeat' (first|refine aa.ah [0] ( pk) ?_|intro _|refine aa.bA ?_)
  all_goals first|exact⟨rfl,rfl⟩|exact⟨by first|(rw[hn];done)|(rw[hn];rfl),by first|(rw[Int.natCast_add,hn];done)|(rw[Int.natCast_add,hn];rfl)⟩|omega
 ·have hb:(V==0)=false:=by simpa using hv
  simp only[hb,Bool.false_eq_true,if_false]
  refine ACalls.en Tryz.func128 Tryz.ntmps128 ?_
  repeat' (first|refine aa.ah [0] ( pk) ?_|intro _|refine aa.bA ?_)
  all_goals first|exact⟨rfl,rfl⟩|omega
def atB (s:List UInt8) (p:Nat):Int×Int:=if 8*s.length<p+22 then (0,2) else if nB ((af s p).take 22) / 32=1 then (nB ((af s p).take 22)%32,0) else (0,4)
theorem KA (v:Int) (h:0≤v):((v.toNat &&& (31:Int).toNat:Nat):Int)=v%32:=by
 obtain⟨n,rfl⟩:=Int.eq_ofNat_of_zero_le h
 rw[Int.toNat_natCast,show (31:Int).toNat=2^5 - 1 from rfl,Nat.and_two_pow_sub_one_eq_mod]
 omega
theorem Cz (s:List UInt8) (p:Nat) (hs:s.length<1000000000000000) (hp:p≤8*s.length):ACalls (cxg gl) 115 [S s,I p] [] (fun r H=>r=BC (atB s p)∧H=[]):=by
 have nw:=zl (gl:=gl) s
 have sk:=ed (gl:=gl) s 0 p hs ⟨by omega,by omega⟩
 have tk:=gY (gl:=gl) s p 22 hs hp (by omega)
 unfold atB
 unfold pkN tkN at tk
 by_cases h:8*s.length<p+22
 ·rw[if_pos h]
  rw[if_pos h,if_pos h]at tk
  refine ACalls.en Tryz.func115 Tryz.ntmps115 ?_
  repeat' (first|refine aa.ah [] ( nw) ?_|refine aa.ah [0] ( sk) ?_|refine aa.ah [0] ( tk) ?_|intro _|refine aa.bA ?_)
  all_goals first|exact⟨rfl,rfl⟩|omega
 ·rw[if_neg h]
  rw[if_neg h,if_neg h]at tk
  obtain⟨v0,v1⟩:=iB 22 _ (take_len s p 22 (by omega)) (cT s p 22)
  have ha:=KA _ v0
  generalize nB ((af s p).take 22)=V at *
  have e5:V / 2^5=V / 32:=rfl
  by_cases hv:V / 32=1
  ·rw[if_pos hv]
   rw[←ha]
   refine ACalls.en Tryz.func115 Tryz.ntmps115 ?_
   repeat' (first|refine aa.ah [] ( nw) ?_|refine aa.ah [0] ( sk) ?_|refine aa.ah [0] ( tk) ?_|intro _|refine aa.bA ?_)
   all_goals first|exact⟨rfl,rfl⟩|omega
  ·rw[if_neg hv]
   refine ACalls.en Tryz.func115 Tryz.ntmps115 ?_
   repeat' (first|refine aa.ah [] ( nw) ?_|refine aa.ah [0] ( sk) ?_|refine aa.ah [0] ( tk) ?_|intro _|refine aa.bA ?_)
   all_goals first|exact⟨rfl,rfl⟩|omega
def zer:List Int→Nat
 |[]=>0
 |b::r=>if b=0 then zer r+1 else 0
theorem EI:∀l:List Int,zer l≤l.length
 |[]=>by simp[zer]
 |b::r=>by
  have:=EI r
  unfold zer
  split<;>simp<;>omega
def nxB (s:List UInt8) (p:Nat):Int×Bool:=if gH s p then ((atB s (p+bv p)).1,(atB s (p+bv p)).2==0) else (0,false)
theorem MH (s:List UInt8) (p:Nat):0≤(atB s p).1∧(atB s p).1≤31∧((atB s p).2≠0→(atB s p).1=0):=by
 unfold atB
 split
 ·simp
 ·split
  ·simp;omega
  ·simp
theorem Cx (s:List UInt8) (p:Nat) (hs:s.length<1000000000000000) (hp:p≤8*s.length):ACalls (cxg gl) 234 [S s,I p] [] (fun r H=>r = .aX [I (nxB s p).1,B (nxB s p).2]∧H=[]):=by
 have nw:=zl (gl:=gl) s
 have sk:=ed (gl:=gl) s 0 p hs ⟨by omega,by omega⟩
 have fl:=Bs (gl:=gl) s p hs hp
 have hle:=jJ s p hp
 have at':=qw (gl:=gl) s ((p+bv p:Nat):Int)
 have ma:=Cz (gl:=gl) s (p+bv p) hs hle
 unfold nxB
 generalize gH s p=k at *
 cases k with
 |false =>
  simp only[Bool.false_eq_true,if_false]at fl ⊢
  refine ACalls.en Tryz.func234 Tryz.ntmps234 ?_
  repeat' (first|refine aa.ah [] ( nw) ?_|refine aa.ah [0] ( sk) ?_|refine aa.ah [0] ( fl) ?_|intro _|refine aa.bA ?_)
  all_goals first|exact⟨rfl,rfl⟩|omega
 |true =>
  simp only[if_true]at fl ⊢
  generalize atB s (p+bv p)=m at *
  obtain⟨v,e⟩:=m
  simp only at ma ⊢
  have he:(e==(0:Int))=decide (e=0):=by by_cases h:e=0<;>simp[h]
  rw[he]
  refine ACalls.en Tryz.func234 Tryz.ntmps234 ?_
  repeat' (first|refine aa.ah [] ( nw) ?_|refine aa.ah [0] ( sk) ?_|refine aa.ah [0] ( fl) ?_|refine aa.ah [0] ( at') ?_|refine aa.ae (ma) ?_|intro _|refine aa.bA ?_)
  all_goals first|exact⟨rfl,rfl⟩|omega
theorem Gd (s:List UInt8) (p:Nat) (hs:s.length<1000000000000000) (hp:p≤8*s.length):ACalls (cxg gl) 199 [S s,I p] [] (fun r H=>r=I (zer (af s p))∧H=[]):=by
 have nw:=zl (gl:=gl) s
 have sk:=ed (gl:=gl) s 0 p hs ⟨by omega,by omega⟩
 refine ACalls.en Tryz.func199 Tryz.ntmps199 ?_
 repeat (first|refine aa.ah [] ( nw) ?_|refine aa.ah [0] ( sk) ?_|refine aa.iR ?_)
 refine aa.weak (env':=[(6,I ((0:Nat):Int)),(5, .ptr 0 0)]) ⟨rfl,rfl,trivial⟩ ?_
 refine aa.loop (fun m env H=>∃i:Nat,m=8*s.length - (p+i)∧p+i≤8*s.length∧zer (af s p)=i+zer (af s (p+i))∧env=[(6,I (i:Int)),(5, .ptr 0 0)]∧H=[Rd s ((p+i:Nat):Int)]) (8*s.length - p)
  ⟨0,rfl,by omega,by simp,rfl,rfl⟩ ?_
 rintro m env H ⟨i,rfl,hi,hz,rfl,rfl⟩
 have tk:=gY (gl:=gl) s (p+i) 1 hs hi (by omega)
 unfold pkN tkN at tk
 rcases Nat.lt_or_ge (p+i) (8*s.length)with hlt|hge
 ·rw[if_neg (by omega),if_neg (by omega)]at tk
  have hb:=bR s (p+i)
  rw[eG s (p+i) hlt]at tk hz hb
  have h01:=hb _ List.mem_cons_self
  have e1:∀b:Int,nB (List.take 1 (b::af s (p+i+1)))=b:=fun b=>by simp[nB]
  rw[e1]at tk
  generalize cz s ((p+i:Nat):Int)=b at *
  rcases h01 with rfl|rfl
  ·have hz':zer (af s p)=(i+1)+zer (af s (p+(i+1))):=by
    have e0:zer (0::af s (p+i+1))=zer (af s (p+i+1))+1:=by rw[zer,if_pos rfl]
    rw[show p+(i+1)=p+i+1 from rfl];omega
   repeat' (first|refine aa.ah [0] ( tk) ?_|intro _|refine aa.aR ?_)
   all_goals first
    |exact aa.round [(6,I ((i+1:Nat):Int)),(5, .ptr 0 0)] (8*s.length - (p+(i+1))) (by omega) ⟨rfl,rfl,trivial⟩ ⟨i+1,rfl,by omega,hz',rfl,rfl⟩
    |omega
  ·have hz':zer (af s p)=i:=by
    have e0:zer (1::af s (p+i+1))=0:=by rw[zer,if_neg (by decide)]
    omega
   rw[hz']
   repeat' (first|refine aa.ah [0] ( tk) ?_|intro _|refine aa.aR ?_)
   all_goals first|exact⟨rfl,rfl⟩|omega
 ·rw[if_pos (by omega),if_pos (by omega)]at tk
  have hz':zer (af s p)=i:=by rw[hz,jU s (p+i) hge,zer];omega
  rw[hz']
  repeat' (first|refine aa.ah [0] ( tk) ?_|intro _|refine aa.aR ?_)
  all_goals first|exact⟨rfl,rfl⟩|omega
end Mk
namespace Mk
open Go Bt
theorem GY (l:List Int):∀a:Int,l.foldl (fun a b=>2*a+b) a=a*2^l.length+nB l:=by
 induction l with
 |nil=>intro a;simp[nB]
 |cons b l ih =>
  intro a
  have h0:nB (b::l)=b*2^l.length+nB l:=by
   show List.foldl _ (2*0+b) l=_
   rw[ih];simp
  rw[h0,List.foldl_cons,ih,List.length_cons,Int.pow_succ,Int.add_mul,Int.mul_comm 2 a,Int.mul_assoc,Int.mul_comm 2 (2^l.length)]
  omega
theorem lQ (a b:List Int):nB (a++b)=nB a*2^b.length+nB b:=by
 have:=GY b (nB a)
 rw[←this]
 simp[nB,List.foldl_append]
theorem xp:∀(n:Nat) (a b:List Int),a.length=n→b.length=n→(∀x∈a,x=0∨x=1)→(∀x∈b,x=0∨x=1)→nB a=nB b→a=b
 |0,a,b,ha,hb,_,_,_=>by rw[List.eq_nil_of_length_eq_zero ha,List.eq_nil_of_length_eq_zero hb]
 |n+1,a,b,ha,hb,h1,h2,h=>by
  have na:a≠[]:=fun e=>by rw[e]at ha;simp at ha
  have nb:b≠[]:=fun e=>by rw[e]at hb;simp at hb
  have ea:=(List.dropLast_concat_getLast na).symm
  have eb:=(List.dropLast_concat_getLast nb).symm
  have la:=h1 _ (List.getLast_mem na)
  have lb:=h2 _ (List.getLast_mem nb)
  rw[ea,eb,gG,gG]at h
  have:=xp n a.dropLast b.dropLast (by rw[List.length_dropLast];omega) (by rw[List.length_dropLast];omega) (fun x hx=>h1 x (List.dropLast_subset _ hx)) (fun x hx=>h2 x (List.dropLast_subset _ hx)) (by omega)
  rw[ea,eb,this]
  congr 2
  rw[this]at h
  omega
theorem jy (l:List Int) (h:∀x∈l,x=0∨x=1):fC (l.map aY)=nB l:=by
 have:∀(l:List Int) (a:Int),(∀x∈l,x=0∨x=1)→(l.map aY).foldl (fun n c=>2*n+((c.toNat:Int) - 48)) a=l.foldl (fun a b=>2*a+b) a:=by
  intro l
  induction l with
  |nil=>intro a _;rfl
  |cons b l ih =>
   intro a hl
   rw[List.map_cons,List.foldl_cons,List.foldl_cons,ih _ fun x hx=>hl x (List.mem_cons_of_mem _ hx)]
   congr 2
   rcases hl b List.mem_cons_self with rfl|rfl<;>rfl
 exact this l 0 h
theorem pQ (a b:List Int) (h1:∀x∈a,x=0∨x=1) (h2:∀x∈b,x=0∨x=1) (h:a.map aY=b.map aY):a=b:=by
 have e:∀l:List Int,(∀x∈l,x=0∨x=1)→(l.map aY).map und=l:=by
  intro l hl
  rw[List.map_map]
  conv=>rhs;rw[←List.map_id l]
  exact List.map_congr_left fun x hx=>yz x (hl x hx)
 rw[←e a h1,←e b h2,h]
def bK:List UInt8:=[48,48,48,48,48,48,48,48,48,48,48,48,48,48,48,48,49]
theorem LI:bK=([0,0,0,0,0,0,0,0,0,0,0,0,0,0,0,0,1]:List Int).map aY:=rfl
theorem LG (l:List Int) (hl:l.length=17) (h:∀x∈l,x=0∨x=1):l.map aY=bK↔nB l=1:=by
 rw[LI]
 have h2:∀x∈([0,0,0,0,0,0,0,0,0,0,0,0,0,0,0,0,1]:List Int),x=0∨x=1:=by decide
 constructor
 ·intro e
  rw[pQ _ _ h h2 e];rfl
 ·intro e
  rw[xp 17 l _ hl rfl h h2 (by rw[e];rfl)]
theorem Ad (s:List UInt8) (p:Nat) (h:p+22≤8*s.length) :
  nB ((af s p).take 22) / 32=nB ((af s p).take 17)∧nB ((af s p).take 22)%32=nB ((af s (p+17)).take 5):=by
 have e:(af s p).take 22=(af s p).take 17++((af s p).drop 17).take 5:=by
  rw[show (22:Nat)=17+5 from rfl,List.take_add]
 have hd:(af s p).drop 17=af s (p+17):=by
  apply List.ext_getElem?
  intro j
  rw[List.getElem?_drop]
  unfold af
  simp only[List.getElem?_map]
  by_cases hj:17+j<8*s.length - p
  ·rw[List.getElem?_range hj,List.getElem?_range (by omega)]
   simp only[Option.map_some]
   congr 2;omega
  ·rw[List.getElem?_eq_none (by simpa using hj),List.getElem?_eq_none (by simp;omega)];rfl
 rw[hd]at e
 have l5:=take_len s (p+17) 5 (by omega)
 obtain⟨b0,b1⟩:=iB 5 _ l5 (cT s (p+17) 5)
 rw[e,lQ,l5]
 have:(2:Int)^5=32:=rfl
 omega
theorem nE (s:List UInt8) (p n:Nat):((aC s).take (p+n)).drop p=((af s p).take n).map aY:=by
 rw[List.drop_take,Nat.add_sub_cancel_left,ik,List.map_take]
end Mk
namespace Mk
open Go Bt
attribute [local irreducible] aa ACalls
variable {gl:List (Nat×List D)}
theorem sJ (l:List Int) (h:∀x∈l,x=0∨x=1):(l.map aY).all bC=true:=by
 rw[List.all_eq_true]
 intro c hc
 obtain⟨x,hx,rfl⟩:=List.mem_map.1 hc
 rcases h x hx with rfl|rfl<;>decide
attribute [local irreducible] aC af fC aY
theorem FR (s:List UInt8) (p:Nat) (hs:s.length<1000000000000000) (hp:p≤8*s.length):ACalls (cxg gl) 118 [S (aC s),I p] [] (fun r H=>r=BC (atB s p)∧H=[]):=by
 have hl:=bX s
 unfold atB
 by_cases h:8*s.length<p+22
 ·rw[if_pos h]
  refine ACalls.en Tryz.func118 Tryz.ntmps118 ?_
  repeat' (first|intro _|refine aa.bA ?_)
  all_goals first|exact⟨rfl,rfl⟩|omega
 ·rw[if_neg h]
  obtain⟨a1,a2⟩:=Ad s p (by omega)
  rw[a1,a2]
  have w1:=nE s p 17
  have w2:=nE s (p+17) 5
  have l1:=take_len s p 17 (by omega)
  have l2:=take_len s (p+17) 5 (by omega)
  have m1:=LG _ l1 (cT s p 17)
  have nc:=kZ (gl:=gl) (((af s (p+17)).take 5).map aY) (by rw[List.length_map];omega) (sJ _ (cT s (p+17) 5))
  rw[jy _ (cT s (p+17) 5)]at nc
  have i1:(p:Int).toNat=p:=by omega
  have i2:((p:Int)+17).toNat=p+17:=by omega
  have i3:((p:Int)+22).toNat=p+17+5:=by omega
  have w3:List.drop (p:Int).toNat (List.take ((p:Int)+17).toNat (aC s))=((af s p).take 17).map aY:=by rw[i1,i2];exact w1
  have w4:List.drop ((p:Int)+17).toNat (List.take ((p:Int)+22).toNat (aC s))=((af s (p+17)).take 5).map aY:=by rw[i2,i3];exact w2
  rw[←w3]at m1
  rw[←w4]at nc
  generalize nB ((af s p).take 17)=V at *
  generalize nB ((af s (p+17)).take 5)=W at *
  by_cases hv:V=1
  ·rw[if_pos hv]
   have m2:(!decide (List.drop (p:Int).toNat (List.take ((p:Int)+17).toNat (aC s))=bK))=false:=by
    rw[decide_eq_true (m1.2 hv)];rfl
   refine ACalls.en Tryz.func118 Tryz.ntmps118 ?_
   repeat' (first|refine aa.bN true ?_|refine aa.ae (nc) ?_|(apply aa.cBT;rfl;first|(simp only[bT];omega)|(exact m2))|(apply aa.cBF;rfl;first|(simp only[bF];omega)|exact ndF rfl|(exact m2))|intro _|refine aa.bA ?_)
   all_goals first|exact⟨rfl,rfl⟩|omega
  ·rw[if_neg hv]
   have m2:(!decide (List.drop (p:Int).toNat (List.take ((p:Int)+17).toNat (aC s))=bK))=true:=by
    rw[decide_eq_false (fun e=>hv (m1.1 e))];rfl
   refine ACalls.en Tryz.func118 Tryz.ntmps118 ?_
   repeat' (first|refine aa.bN true ?_|refine aa.ae (nc) ?_|(apply aa.cBT;rfl;first|(simp only[bT];omega)|(exact m2))|(apply aa.cBF;rfl;first|(simp only[bF];omega)|exact ndF rfl|(exact m2))|intro _|refine aa.bA ?_)
   all_goals first|exact⟨rfl,rfl⟩|omega
theorem qF (p i:Nat) (h:i≤bv p):(p+i)%8=0↔i=bv p∨(i=0∧bv p=0):=by unfold bv at *;omega
theorem Cq (s:List UInt8) (p i:Nat) (hi:i<bv p) (hp:p≤8*s.length) (h0:nB ((af s p).take i)=0) (hb:cz s ((p+i:Nat):Int)=1):gH s p=false:=by
 have hle:=jJ s p hp
 have e1:=lq s p i (by omega)
 have e2:(af s p).take (bv p)=(af s p).take (i+1)++((af s p).drop (i+1)).take (bv p - (i+1)):=by
  rw[←List.take_add];congr 1;omega
 have e3:nB ((af s p).take (i+1))=1:=by rw[e1,gG,h0,hb];rfl
 have b:=iB _ (((af s p).drop (i+1)).take (bv p - (i+1))) rfl (fun x hx=>bR s p x (List.drop_subset _ _ (List.mem_of_mem_take hx)))
 have hne:nB ((af s p).take (bv p))≠0:=by
  rw[e2,lQ,e3]
  have:=Int.pow_pos (n:=(2:Int)) (m:=(((af s p).drop (i+1)).take (bv p - (i+1))).length) (by decide)
  omega
 unfold gH
 simpa using hne
theorem tO (s:List UInt8) (q:Nat) (h:q<8*s.length):bt (aC s) ((q:Nat):Int).toNat=48+cz s (q:Int)∧(cz s (q:Int)=0∨cz s (q:Int)=1):=by
 have h1:=vE s (q:Int) (by omega) (by omega)
 have hb:=(Dh s (q:Int)).2
 refine⟨?_,hb⟩
 unfold bt
 rw[List.getD_eq_getElem?_getD,h1]
 rcases hb with e|e<;>rw[e]<;>unfold aY<;>decide
theorem BW (s:List UInt8) (p:Nat) (hs:s.length<1000000000000000) (hp:p≤8*s.length):ACalls (cxg gl) 60 [S (aC s),I p] [] (fun r H=>r = .aX [I (nxB s p).1,B (nxB s p).2]∧H=[]):=by
 have hl:=bX s
 have hle:=jJ s p hp
 refine ACalls.en Tryz.func60 Tryz.ntmps60 ?_
 repeat (first|refine aa.dG ?_)
 refine aa.weak (env':=[(1,I ((p+0:Nat):Int)),(0,S (aC s))]) ⟨rfl,rfl,trivial⟩ ?_
 refine aa.loop (fun m env H=>∃i:Nat,m=bv p - i∧i≤bv p∧nB ((af s p).take i)=0∧env=[(1,I ((p+i:Nat):Int)),(0,S (aC s))]∧H=[]) (bv p)
  ⟨0,rfl,by omega,rfl,rfl,rfl⟩ ?_
 rintro m env H ⟨i,rfl,hi,hz,rfl,rfl⟩
 rcases Nat.lt_or_ge i (bv p)with hlt|hge
 ·obtain⟨b1,b2⟩:=tO s (p+i) (by omega)
  have hm:((p+i:Nat):Int)%8≠0:=by have:=qF p i hi;omega
  rcases b2 with b2|b2
  ·rw[b2]at b1
   have hz':nB ((af s p).take (i+1))=0:=by rw[lq s p i (by omega),gG,hz,b2];rfl
   repeat' (first|intro _|refine aa.aR ?_)
   all_goals first
    |exact aa.round [(1,I ((p+(i+1):Nat):Int)),(0,S (aC s))] (bv p - (i+1)) (by omega) ⟨rfl,rfl,trivial⟩ ⟨i+1,rfl,hlt,hz',rfl,rfl⟩
    |omega
  ·have hk:=Cq s p i hlt hp hz b2
   rw[b2]at b1
   unfold nxB
   simp only[hk,Bool.false_eq_true,if_false]
   repeat' (first|intro _|refine aa.aR ?_)
   all_goals first|exact⟨rfl,rfl⟩|omega
 ·obtain rfl:i=bv p:=by omega
  have hk:gH s p=true:=by unfold gH;simpa using hz
  have hm:((p+bv p:Nat):Int)%8=0:=by have:=qF p (bv p) hi;omega
  have ra:=FR (gl:=gl) s (p+bv p) hs hle
  unfold nxB
  simp only[hk,if_true]
  generalize atB s (p+bv p)=M at *
  obtain⟨v,e⟩:=M
  simp only at ra ⊢
  have he:(e==(0:Int))=decide (e=0):=by by_cases h:e=0<;>simp[h]
  rw[he]
  repeat' (first|refine aa.ae (ra) ?_|intro _|refine aa.aR ?_)
  all_goals first|exact⟨rfl,rfl⟩|omega
end Mk
namespace Mk
open Go Bt
attribute [local irreducible] aa ACalls
variable {gl:List (Nat×List D)}
def rhT (s:List UInt8) (p:Nat) (k:Int):Int×Int×Int×Nat :=
 if (nxB s p).2 then
  if (nxB s p).1=k then
   if 8*s.length<p+bv p+22+7 then (0,0,2,p+bv p+22)
   else (nB ((af s (p+bv p+22)).take 7) / 32,nB ((af s (p+bv p+22)).take 7)%32,if nB ((af s (p+bv p+22)).take 7)%32=0 then 9 else 0,p+bv p+22+7)
  else (0,0,10,p)
 else (0,0,4,p)
theorem xk (s:List UInt8) (p:Nat) (h:(nxB s p).2=true):gH s p=true∧p+bv p+22≤8*s.length:=by
 unfold nxB at h
 cases hk:gH s p with
 |false=>rw[hk]at h;simp at h
 |true =>
  rw[hk]at h
  simp only[if_true,beq_iff_eq]at h
  refine⟨rfl,?_⟩
  unfold atB at h
  split at h
  ·cases h
  ·omega
attribute [local irreducible] nxB gH
theorem Na (s:List UInt8) (p:Nat) (k:Int) (hk : -9223372036854775808≤k∧k≤9223372036854775807) (hs:s.length<1000000000000000) (hp:p≤8*s.length):ACalls (cxg gl) 265 [.ptr 0 0,I k] [Rd s p] (fun r H=>r = .aX [I (rhT s p k).1,I (rhT s p k).2.1,I (rhT s p k).2.2.1]∧H=[Rd s ((rhT s p k).2.2.2:Int)]):=by
 have tx:=Aw (gl:=gl) s p
 have a0:=qw (gl:=gl) s p
 have nx:=Cx (gl:=gl) s p hs hp
 have fl:=Bs (gl:=gl) s p hs hp
 have ok:=xk s p
 unfold rhT
 generalize nxB s p=X at *
 obtain⟨n,b⟩:=X
 simp only at nx ok ⊢
 cases b with
 |false =>
  simp only[Bool.false_eq_true,if_false]
  refine ACalls.en Tryz.func265 Tryz.ntmps265 ?_
  repeat' (first|refine aa.ah [0] ( tx) ?_|refine aa.ah [0] ( a0) ?_|refine aa.ae (nx) ?_|intro _|refine aa.bA ?_)
  all_goals first|exact⟨rfl,rfl⟩|omega
 |true =>
  obtain⟨o1,o2⟩:=ok rfl
  rw[o1]at fl
  simp only[if_true]at fl ⊢
  by_cases hn:n=k
  ·rw[if_pos hn]
   have t22:=gY (gl:=gl) s (p+bv p) 22 hs (by omega) (by omega)
   have t7:=gY (gl:=gl) s (p+bv p+22) 7 hs (by omega) (by omega)
   unfold pkN tkN at t22 t7
   rw[if_neg (by omega),if_neg (by omega)]at t22
   generalize p+bv p=q at *
   by_cases h7:8*s.length<q+22+7
   ·rw[if_pos h7,if_pos h7]at t7
    rw[if_pos h7]
    refine ACalls.en Tryz.func265 Tryz.ntmps265 ?_
    repeat' (first|refine aa.ah [0] ( tx) ?_|refine aa.ah [0] ( a0) ?_|refine aa.ah [0] ( fl) ?_|refine aa.ah [0] ( t22) ?_|refine aa.ah [0] ( t7) ?_|refine aa.ae (nx) ?_|intro _|refine aa.bA ?_)
    all_goals first|exact⟨rfl,rfl⟩|omega
   ·rw[if_neg h7,if_neg h7]at t7
    rw[if_neg h7]
    obtain⟨v0,v1⟩:=iB 7 _ (take_len s (q+22) 7 (by omega)) (cT s (q+22) 7)
    have ha:=KA _ v0
    generalize nB ((af s (q+22)).take 7)=V at *
    rw[←ha]
    by_cases hv:((V.toNat &&& (31:Int).toNat:Nat):Int)=0
    ·rw[if_pos hv]
     refine ACalls.en Tryz.func265 Tryz.ntmps265 ?_
     repeat' (first|refine aa.ah [0] ( tx) ?_|refine aa.ah [0] ( a0) ?_|refine aa.ah [0] ( fl) ?_|refine aa.ah [0] ( t22) ?_|refine aa.ah [0] ( t7) ?_|refine aa.ae (nx) ?_|intro _|refine aa.bA ?_)
     all_goals first|exact⟨rfl,rfl⟩|omega
    ·rw[if_neg hv]
     refine ACalls.en Tryz.func265 Tryz.ntmps265 ?_
     repeat' (first|refine aa.ah [0] ( tx) ?_|refine aa.ah [0] ( a0) ?_|refine aa.ah [0] ( fl) ?_|refine aa.ah [0] ( t22) ?_|refine aa.ah [0] ( t7) ?_|refine aa.ae (nx) ?_|intro _|refine aa.bA ?_)
     all_goals first|exact⟨rfl,rfl⟩|omega
  ·rw[if_neg hn]
   refine ACalls.en Tryz.func265 Tryz.ntmps265 ?_
   repeat' (first|refine aa.ah [0] ( tx) ?_|refine aa.ah [0] ( a0) ?_|refine aa.ae (nx) ?_|intro _|refine aa.bA ?_)
   all_goals first|exact⟨rfl,rfl⟩|omega
end Mk
namespace Mk
open Go Bt
attribute [local irreducible] aa ACalls
variable {gl:List (Nat×List D)}
theorem FL (s:List UInt8) (p:Nat) (k:Int) (hp:p≤8*s.length):(rhT s p k).2.2.2≤8*s.length∧p≤(rhT s p k).2.2.2:=by
 unfold rhT
 split
 ·rename_i h
  have:=(xk s p h).2
  split
  ·split<;>simp<;>omega
  ·simp;omega
 ·simp;omega
def rhX (s:List UInt8) (p:Nat) (k:Int):Int×Int×Int×Nat:=if (rhT s p k).2.2.1=0 then rhT s p k else (0,0,(rhT s p k).2.2.1,p)
attribute [local irreducible] rhT
theorem FJ (s:List UInt8) (p:Nat) (k:Int) (hk : -9223372036854775808≤k∧k≤9223372036854775807) (hs:s.length<1000000000000000) (hp:p≤8*s.length):ACalls (cxg gl) 235 [.ptr 0 0,I k] [Rd s p] (fun r H=>r = .aX [I (rhX s p k).1,I (rhX s p k).2.1,I (rhX s p k).2.2.1]∧H=[Rd s ((rhX s p k).2.2.2:Int)]):=by
 have a0:=qw (gl:=gl) s p
 have tk:=Na (gl:=gl) s p k hk hs hp
 have hle:=FL s p k hp
 unfold rhX
 generalize rhT s p k=T at *
 obtain⟨i,q,e,u⟩:=T
 simp only at tk hle ⊢
 have sk:=ed (gl:=gl) s u p hs ⟨by omega,by omega⟩
 by_cases he:e=0
 ·subst he
  simp only[if_true]
  refine ACalls.en Tryz.func235 Tryz.ntmps235 ?_
  repeat' (first|refine aa.ah [0] ( a0) ?_|refine aa.ah [0] ( tk) ?_|intro _|refine aa.bA ?_)
  all_goals first|exact⟨rfl,rfl⟩|omega
 ·rw[if_neg he]
  refine ACalls.en Tryz.func235 Tryz.ntmps235 ?_
  repeat' (first|refine aa.ah [0] ( a0) ?_|refine aa.ah [0] ( tk) ?_|refine aa.ah [0] ( sk) ?_|intro _|refine aa.bA ?_)
  all_goals first|exact⟨rfl,rfl⟩|omega
end Mk
namespace Mk
open Go Bt
attribute [local irreducible] aa ACalls
variable {gl:List (Nat×List D)}
theorem oM (s:List UInt8) (p n:Nat):(af s p).drop n=af s (p+n):=by
 apply List.ext_getElem?
 intro j
 rw[List.getElem?_drop]
 unfold af
 simp only[List.getElem?_map]
 by_cases hj:n+j<8*s.length - p
 ·rw[List.getElem?_range hj,List.getElem?_range (by omega)]
  simp only[Option.map_some]
  congr 2;omega
 ·rw[List.getElem?_eq_none (by simpa using hj),List.getElem?_eq_none (by simp;omega)];rfl
theorem Gb (s:List UInt8) (p n m:Nat) (h:p+n+m≤8*s.length):nB ((af s p).take (n+m))=nB ((af s p).take n)*2^m+nB ((af s (p+n)).take m):=by
 rw[List.take_add,oM,lQ,take_len s (p+n) m (by omega)]
theorem sD (s:List UInt8) (p n:Nat) (hn:n≤8) (h:p+n≤8*s.length):ACalls (cxg gl) 130 [S (((aC s).take (p+n)).drop p)] [] (fun r H=>r=I (nB ((af s p).take n))∧H=[]):=by
 have l:=take_len s p n h
 have nc:=kZ (gl:=gl) (((af s p).take n).map aY) (by rw[List.length_map];omega) (sJ _ (cT s p n))
 rw[jy _ (cT s p n)]at nc
 rw[nE];exact nc
attribute [local irreducible] aC af nxB gH
theorem Ld (s:List UInt8) (p:Nat) (k:Int) (hk : -9223372036854775808≤k∧k≤9223372036854775807) (hs:s.length<1000000000000000) (hp:p≤8*s.length):ACalls (cxg gl) 61 [S (aC s),I p,I k] [] (fun r H=>r = .aX [I (rhX s p k).1,I (rhX s p k).2.1,I ((rhX s p k).2.2.2:Int),I (rhX s p k).2.2.1]∧H=[]):=by
 have hl:=bX s
 have nx:=BW (gl:=gl) s p hs hp
 have ok:=xk s p
 unfold rhX rhT
 generalize nxB s p=X at *
 obtain⟨n,b⟩:=X
 simp only at nx ok ⊢
 cases b with
 |false =>
  simp only[Bool.false_eq_true,if_false]
  refine ACalls.en Tryz.func61 Tryz.ntmps61 ?_
  repeat' (first|refine aa.bN true ?_|refine aa.ae (nx) ?_|refine aa.aV (nx) ?_|apply aa.bO|apply aa.lpU|intro _|(apply aa.dB ;rfl)|((first|apply aa.gD|apply aa.qgD|apply aa.sgD);rfl;rfl;rfl)|((first|apply aa.gS|apply aa.qgS|apply aa.sgS);rfl;rfl;rfl)|(apply aa.gK;rfl)|refine aa.aR ?_)
  all_goals first|exact⟨rfl,rfl⟩|omega
 |true =>
  obtain⟨o1,o2⟩:=ok rfl
  simp only[if_true]
  by_cases hn:n=k
  ·subst hn
   rw[if_pos rfl]
   refine ACalls.en Tryz.func61 Tryz.ntmps61 ?_
   repeat (first|refine aa.ae (nx) ?_|refine aa.aV (nx) ?_|refine aa.iR ?_)
   refine aa.weak (env':=[(12,I ((p+0:Nat):Int)),(1,I p),(0,S (aC s))]) ⟨rfl,rfl,rfl,trivial⟩ ?_
   refine aa.loop (fun m env H=>∃i:Nat,m=bv p - i∧i≤bv p∧env=[(12,I ((p+i:Nat):Int)),(1,I p),(0,S (aC s))]∧H=[]) (bv p)
    ⟨0,rfl,by omega,rfl,rfl⟩ ?_
   rintro m env H ⟨i,rfl,hi,rfl,rfl⟩
   rcases Nat.lt_or_ge i (bv p)with hlt|hge
   ·have hm:((p+i:Nat):Int)%8≠0:=by have:=qF p i hi;omega
    repeat' (first|refine aa.bN true ?_|intro _|(apply aa.dB ;rfl)|((first|apply aa.gD|apply aa.qgD|apply aa.sgD);rfl;rfl;rfl)|((first|apply aa.gS|apply aa.qgS|apply aa.sgS);rfl;rfl;rfl)|(apply aa.gK;rfl)|refine aa.aR ?_)
    all_goals first
     |exact aa.round [(12,I ((p+(i+1):Nat):Int)),(1,I p),(0,S (aC s))] (bv p - (i+1)) (by omega) ⟨rfl,rfl,rfl,trivial⟩ ⟨i+1,rfl,hlt,rfl,rfl⟩
     |omega
   ·obtain rfl:i=bv p:=by omega
    have hm:((p+bv p:Nat):Int)%8=0:=by have:=qF p (bv p) hi;omega
    generalize p+bv p=q at *
    by_cases h7:8*s.length<q+22+7
    ·rw[if_pos h7]
     repeat' (first|refine aa.bN true ?_|intro _|(apply aa.dB ;rfl)|((first|apply aa.gD|apply aa.qgD|apply aa.sgD);rfl;rfl;rfl)|((first|apply aa.gS|apply aa.qgS|apply aa.sgS);rfl;rfl;rfl)|(apply aa.gK;rfl)|refine aa.aR ?_)
     all_goals first|exact⟨rfl,rfl⟩|omega
    ·rw[if_neg h7]
     have n2:=sD (gl:=gl) s (q+22) 2 (by omega) (by omega)
     have n5:=sD (gl:=gl) s (q+22+2) 5 (by omega) (by omega)
     have sp:=Gb s (q+22) 2 5 (by omega)
     obtain⟨v0,v1⟩:=iB 5 _ (take_len s (q+22+2) 5 (by omega)) (cT s (q+22+2) 5)
     rw[show 2+5=7 from rfl]at sp
     rw[show (2:Int)^5=32 from rfl]at sp v1
     have d1:nB ((af s (q+22)).take 7) / 32=nB ((af s (q+22)).take 2):=by omega
     have d2:nB ((af s (q+22)).take 7)%32=nB ((af s (q+22+2)).take 5):=by omega
     rw[d1,d2]
     have i1:((q:Int)+22).toNat=q+22:=by omega
     have i2:((q:Int)+22+2).toNat=q+22+2:=by omega
     have i3:((q:Int)+22+7).toNat=q+22+2+5:=by omega
     generalize nB ((af s (q+22)).take 2)=V at *
     generalize nB ((af s (q+22+2)).take 5)=W at *
     rw[←i2]at n2
     rw[←i3]at n5
     rw[←i1]at n2
     rw[←i2]at n5
     by_cases hv:W=0
     ·subst hv
      repeat' (first|refine aa.bN true ?_|refine aa.ae (n5) ?_|refine aa.aV (n5) ?_|refine aa.ae (n2) ?_|refine aa.aV (n2) ?_|intro _|(apply aa.dB ;rfl)|((first|apply aa.gD|apply aa.qgD|apply aa.sgD);rfl;rfl;rfl)|((first|apply aa.gS|apply aa.qgS|apply aa.sgS);rfl;rfl;rfl)|(apply aa.gK;rfl)|refine aa.aR ?_)
      all_goals first|exact⟨rfl,rfl⟩|omega
     ·simp only[if_neg hv,if_true]
      repeat' (first|refine aa.bN true ?_|refine aa.ae (n5) ?_|refine aa.aV (n5) ?_|refine aa.ae (n2) ?_|refine aa.aV (n2) ?_|intro _|(apply aa.dB ;rfl)|((first|apply aa.gD|apply aa.qgD|apply aa.sgD);rfl;rfl;rfl)|((first|apply aa.gS|apply aa.qgS|apply aa.sgS);rfl;rfl;rfl)|(apply aa.gK;rfl)|refine aa.aR ?_)
      all_goals first|exact⟨rfl,rfl⟩|omega
  ·rw[if_neg hn]
   refine ACalls.en Tryz.func61 Tryz.ntmps61 ?_
   repeat' (first|refine aa.bN true ?_|refine aa.ae (nx) ?_|refine aa.aV (nx) ?_|apply aa.bO|apply aa.lpU|intro _|(apply aa.dB ;rfl)|((first|apply aa.gD|apply aa.qgD|apply aa.sgD);rfl;rfl;rfl)|((first|apply aa.gS|apply aa.qgS|apply aa.sgS);rfl;rfl;rfl)|(apply aa.gK;rfl)|refine aa.aR ?_)
   all_goals first|exact⟨rfl,rfl⟩|omega
end Mk
namespace Mk
open Go Bt
attribute [local irreducible] aa ACalls
variable {gl:List (Nat×List D)}
def mkM (s:List UInt8) (p:Nat):Int×Nat :=
 if p%8=0 then (if (atB s p).2=0 then (if (atB s p).1=0 then (0,p+22) else (4,p)) else ((atB s p).2,p)) else (4,p)
theorem yf (s:List UInt8) (p:Nat) (h:(atB s p).2=0):p+22≤8*s.length:=by
 unfold atB at h
 split at h
 ·cases h
 ·omega
attribute [local irreducible] atB
theorem LN (s:List UInt8) (p:Nat) (hs:s.length<1000000000000000) (hp:p≤8*s.length):ACalls (cxg gl) 190 [.ptr 0 0] [Rd s p] (fun r H=>r=I (mkM s p).1∧H=[Rd s ((mkM s p).2:Int)]):=by
 have tx:=Aw (gl:=gl) s p
 have a0:=qw (gl:=gl) s p
 have ma:=Cz (gl:=gl) s p hs hp
 have ok:=yf s p
 have t22:=gY (gl:=gl) s p 22 hs hp (by omega)
 unfold pkN tkN at t22
 unfold mkM
 generalize atB s p=A at *
 obtain⟨v,e⟩:=A
 simp only at ma ok ⊢
 by_cases h8:p%8=0
 ·rw[if_pos h8]
  have h8':(p:Int)%8=0:=by omega
  by_cases he:e=0
  ·subst he
   have o:=ok rfl
   rw[if_neg (by omega),if_neg (by omega)]at t22
   simp only[if_true]
   by_cases hv:v=0
   ·subst hv
    simp only[if_true]
    refine ACalls.en Tryz.func190 Tryz.ntmps190 ?_
    repeat' (first|refine aa.bN true ?_|refine aa.ah [0] ( a0) ?_|refine aa.ah [0] ( tx) ?_|refine aa.ah [0] ( t22) ?_|refine aa.ae (ma) ?_|intro _|(apply aa.gK;rfl)|refine aa.bA ?_)
    all_goals first|exact⟨rfl,rfl⟩|omega|(exfalso;rename_i hx;simp_all;done)
   ·rw[if_neg hv]
    refine ACalls.en Tryz.func190 Tryz.ntmps190 ?_
    repeat' (first|refine aa.bN true ?_|refine aa.ah [0] ( a0) ?_|refine aa.ah [0] ( tx) ?_|refine aa.ah [0] ( t22) ?_|refine aa.ae (ma) ?_|intro _|(apply aa.gK;rfl)|refine aa.bA ?_)
    all_goals first|exact⟨rfl,rfl⟩|omega|(exfalso;rename_i hx;simp_all;done)
  ·rw[if_neg he]
   refine ACalls.en Tryz.func190 Tryz.ntmps190 ?_
   repeat' (first|refine aa.bN true ?_|refine aa.ah [0] ( a0) ?_|refine aa.ah [0] ( tx) ?_|refine aa.ah [0] ( t22) ?_|refine aa.ae (ma) ?_|intro _|(apply aa.gK;rfl)|refine aa.bA ?_)
   all_goals first|exact⟨rfl,rfl⟩|omega|(exfalso;rename_i hx;simp_all;done)
 ·rw[if_neg h8]
  have h8':(p:Int)%8≠0:=by omega
  refine ACalls.en Tryz.func190 Tryz.ntmps190 ?_
  repeat' (first|refine aa.bN true ?_|refine aa.ah [0] ( a0) ?_|intro _|(apply aa.gK;rfl)|refine aa.bA ?_)
  all_goals first|exact⟨rfl,rfl⟩|omega|(exfalso;rename_i hx;simp_all;done)
end Mk
end Go.Proofs.YtbpednchkndocaaGreatDoor.Av
