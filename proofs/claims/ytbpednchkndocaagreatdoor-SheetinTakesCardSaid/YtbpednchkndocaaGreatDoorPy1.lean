/- Marks are read: the reader's Fill, Text and Left; marks.At, Zeros and Next, walked. Marks: numbers of rows of bits, no program. Marks: the document's answers, walked. Heads of rows are read: rowhead.Take and the document's answer, walked. Heads of rows are read: rowhead.Take; the document's answer, walked. Heads of rows: the document's answer, walked. Heads of sheets are read: the mark. -/
import Derived.Test.YtbpednchkndocaaGreatDoorPq1
set_option linter.unusedVariables false
set_option linter.unusedSimpArgs false
set_option maxRecDepth 100000
set_option maxHeartbeats 64000000
namespace Go.Proofs.YtbpednchkndocaaGreatDoor.Av
namespace Mk
open Go Bt
attribute [local irreducible] aa ACalls
variable {gl:List (Nat×List D)}
theorem Be (s:List UInt8) (p:Int):ACalls (cxg gl) 200 [.ptr 0 0] [Rd s p] (fun r H=>r=S s∧H=[Rd s p]):=by
 refine ACalls.en Tryz.func200 Tryz.ntmps200 ?_
 repeat' (first|refine aa.aD ?_|refine aa.bh true ?_|refine aa.ai ?_|intro _|refine aa.av ?_)
 all_goals first|exact⟨rfl,rfl⟩
theorem LR (s:List UInt8) (p:Nat) (hs:s.length<1000000000000000) (hp:p≤8*s.length):ACalls (cxg gl) 29 [.ptr 0 0] [Rd s p] (fun r H=>r=I (8*(s.length:Int) - (p:Int))∧H=[Rd s p]):=by
 refine ACalls.en Tryz.func29 Tryz.ntmps29 ?_
 repeat' (first|refine aa.aD ?_|refine aa.bh true ?_|refine aa.dK true ?_|refine aa.aV ?_|refine aa.ai ?_|intro _|refine aa.av ?_)
 all_goals first|exact⟨rfl,rfl⟩|omega
def bW (p:Nat):Nat:=(8 - p%8)%8
theorem kD (s:List UInt8) (p:Nat) (h:p≤8*s.length):p+bW p≤8*s.length:=by unfold bW;omega
def iA (s:List UInt8) (p:Nat):Bool:=nB ((ak s p).take (bW p))==0
theorem BU (s:List UInt8) (p:Nat) (hs:s.length<1000000000000000) (hp:p≤8*s.length):ACalls (cxg gl) 128 [.ptr 0 0] [Rd s p] (fun r H=>r=Ce (if iA s p then ((bW p:Nat),0) else (0,5))∧H=[Rd s ((if iA s p then p+bW p else p:Nat):Int)]):=by
 have hle:=kD s p hp
 have pk:=CL (gl:=gl) s p (bW p) hs hp (by unfold bW;omega)
 unfold pkN at pk
 rw[if_neg (by omega)]at pk
 have hn:((bW p:Nat):Int)=(8 - (p:Int)%8)%8:=by unfold bW;omega
 unfold iA
 generalize nB ((ak s p).take (bW p))=V at *
 rw[hn]at pk
 by_cases hv:V=0
 ·subst hv
  simp only[beq_self_eq_true,if_true]
  refine ACalls.en Tryz.func128 Tryz.ntmps128 ?_
  repeat' (first|refine aa.aD ?_|refine aa.bh true ?_|refine aa.az [0] ( pk) ?_|refine aa.ai ?_|refine aa.aA ?_|refine aa.aK ?_|intro _|refine aa.av ?_)
  all_goals first|exact⟨rfl,rfl⟩|exact⟨by first|(rw[hn];done)|(rw[hn];rfl),by first|(rw[Int.natCast_add,hn];done)|(rw[Int.natCast_add,hn];rfl)⟩|omega
 ·have hb:(V==0)=false:=by simpa using hv
  simp only[hb,Bool.false_eq_true,if_false]
  refine ACalls.en Tryz.func128 Tryz.ntmps128 ?_
  repeat' (first|refine aa.aD ?_|refine aa.bh true ?_|refine aa.az [0] ( pk) ?_|refine aa.ai ?_|refine aa.aA ?_|refine aa.aK ?_|intro _|refine aa.av ?_)
  all_goals first|exact⟨rfl,rfl⟩|omega
def atB (s:List UInt8) (p:Nat):Int×Int:=if 8*s.length<p+22 then (0,2) else if nB ((ak s p).take 22) / 32=1 then (nB ((ak s p).take 22)%32,0) else (0,4)
theorem KC (v:Int) (h:0≤v):((v.toNat &&& (31:Int).toNat:Nat):Int)=v%32:=by
 obtain⟨n,rfl⟩:=Int.eq_ofNat_of_zero_le h
 rw[Int.toNat_natCast,show (31:Int).toNat=2^5 - 1 from rfl,Nat.and_two_pow_sub_one_eq_mod]
 omega
theorem CY (s:List UInt8) (p:Nat) (hs:s.length<1000000000000000) (hp:p≤8*s.length):ACalls (cxg gl) 115 [S s,I p] [] (fun r H=>r=Ce (atB s p)∧H=[]):=by
 have nw:=zQ (gl:=gl) s
 have sk:=fG (gl:=gl) s 0 p hs ⟨by omega,by omega⟩
 have tk:=iO (gl:=gl) s p 22 hs hp (by omega)
 unfold atB
 unfold pkN tkN at tk
 by_cases h:8*s.length<p+22
 ·rw[if_pos h]
  rw[if_pos h,if_pos h]at tk
  refine ACalls.en Tryz.func115 Tryz.ntmps115 ?_
  repeat' (first|refine aa.aD ?_|refine aa.bh true ?_|refine aa.az [] ( nw) ?_|refine aa.az [0] ( sk) ?_|refine aa.az [0] ( tk) ?_|refine aa.au ?_|refine aa.ai ?_|refine aa.aK ?_|refine aa.bD ?_|intro _|refine aa.av ?_)
  all_goals first|exact⟨rfl,rfl⟩|omega
 ·rw[if_neg h]
  rw[if_neg h,if_neg h]at tk
  obtain⟨v0,v1⟩:=jd 22 _ (take_len s p 22 (by omega)) (dQ s p 22)
  have ha:=KC _ v0
  generalize nB ((ak s p).take 22)=V at *
  have e5:V / 2^5=V / 32:=rfl
  by_cases hv:V / 32=1
  ·rw[if_pos hv]
   rw[←ha]
   refine ACalls.en Tryz.func115 Tryz.ntmps115 ?_
   repeat' (first|refine aa.aD ?_|refine aa.bh true ?_|refine aa.az [] ( nw) ?_|refine aa.az [0] ( sk) ?_|refine aa.az [0] ( tk) ?_|refine aa.au ?_|refine aa.ai ?_|refine aa.aK ?_|refine aa.bD ?_|intro _|refine aa.av ?_)
   all_goals first|exact⟨rfl,rfl⟩|omega
  ·rw[if_neg hv]
   refine ACalls.en Tryz.func115 Tryz.ntmps115 ?_
   repeat' (first|refine aa.aD ?_|refine aa.bh true ?_|refine aa.az [] ( nw) ?_|refine aa.az [0] ( sk) ?_|refine aa.az [0] ( tk) ?_|refine aa.au ?_|refine aa.ai ?_|refine aa.aK ?_|refine aa.bD ?_|intro _|refine aa.av ?_)
   all_goals first|exact⟨rfl,rfl⟩|omega
def zer:List Int→Nat
 |[]=>0
 |b::r=>if b=0 then zer r+1 else 0
theorem E0:∀l:List Int,zer l≤l.length
 |[]=>by simp[zer]
 |b::r=>by
  have:=E0 r
  unfold zer
  split<;>simp<;>omega
def nxB (s:List UInt8) (p:Nat):Int×Bool:=if iA s p then ((atB s (p+bW p)).1,(atB s (p+bW p)).2==0) else (0,false)
theorem MH (s:List UInt8) (p:Nat):0≤(atB s p).1∧(atB s p).1≤31∧((atB s p).2≠0→(atB s p).1=0):=by
 unfold atB
 split
 ·simp
 ·split
  ·simp;omega
  ·simp
theorem CV (s:List UInt8) (p:Nat) (hs:s.length<1000000000000000) (hp:p≤8*s.length):ACalls (cxg gl) 234 [S s,I p] [] (fun r H=>r = .bK [I (nxB s p).1,B (nxB s p).2]∧H=[]):=by
 have nw:=zQ (gl:=gl) s
 have sk:=fG (gl:=gl) s 0 p hs ⟨by omega,by omega⟩
 have fl:=BU (gl:=gl) s p hs hp
 have hle:=kD s p hp
 have at':=qX (gl:=gl) s ((p+bW p:Nat):Int)
 have ma:=CY (gl:=gl) s (p+bW p) hs hle
 unfold nxB
 generalize iA s p=k at *
 cases k with
 |false =>
  simp only[Bool.false_eq_true,if_false]at fl ⊢
  refine ACalls.en Tryz.func234 Tryz.ntmps234 ?_
  repeat' (first|refine aa.aD ?_|refine aa.bh true ?_|refine aa.az [] ( nw) ?_|refine aa.az [0] ( sk) ?_|refine aa.az [0] ( fl) ?_|refine aa.au ?_|refine aa.ai ?_|intro _|refine aa.av ?_)
  all_goals first|exact⟨rfl,rfl⟩|omega
 |true =>
  simp only[if_true]at fl ⊢
  generalize atB s (p+bW p)=m at *
  obtain⟨v,e⟩:=m
  simp only at ma ⊢
  have he:(e==(0:Int))=decide (e=0):=by by_cases h:e=0<;>simp[h]
  rw[he]
  refine ACalls.en Tryz.func234 Tryz.ntmps234 ?_
  repeat' (first|refine aa.aD ?_|refine aa.bh true ?_|refine aa.az [] ( nw) ?_|refine aa.az [0] ( sk) ?_|refine aa.az [0] ( fl) ?_|refine aa.az [0] ( at') ?_|refine aa.ah (ma) ?_|refine aa.au ?_|refine aa.ai ?_|intro _|refine aa.av ?_)
  all_goals first|exact⟨rfl,rfl⟩|omega
theorem Gr (s:List UInt8) (p:Nat) (hs:s.length<1000000000000000) (hp:p≤8*s.length):ACalls (cxg gl) 199 [S s,I p] [] (fun r H=>r=I (zer (ak s p))∧H=[]):=by
 have nw:=zQ (gl:=gl) s
 have sk:=fG (gl:=gl) s 0 p hs ⟨by omega,by omega⟩
 refine ACalls.en Tryz.func199 Tryz.ntmps199 ?_
 repeat (first|refine aa.aD ?_|refine aa.bh true ?_|refine aa.az [] ( nw) ?_|refine aa.az [0] ( sk) ?_|refine aa.au ?_|refine aa.ai ?_|refine aa.aj ?_|refine aa.df ?_|refine aa.aB ?_)
 refine aa.weak (env':=[(6,I ((0:Nat):Int)),(5, .ptr 0 0)]) ⟨rfl,rfl,trivial⟩ ?_
 refine aa.loop (fun m env H=>∃i:Nat,m=8*s.length - (p+i)∧p+i≤8*s.length∧zer (ak s p)=i+zer (ak s (p+i))∧env=[(6,I (i:Int)),(5, .ptr 0 0)]∧H=[Rd s ((p+i:Nat):Int)]) (8*s.length - p)
  ⟨0,rfl,by omega,by simp,rfl,rfl⟩ ?_
 rintro m env H ⟨i,rfl,hi,hz,rfl,rfl⟩
 have tk:=iO (gl:=gl) s (p+i) 1 hs hi (by omega)
 unfold pkN tkN at tk
 rcases Nat.lt_or_ge (p+i) (8*s.length)with hlt|hge
 ·rw[if_neg (by omega),if_neg (by omega)]at tk
  have hb:=cO s (p+i)
  rw[fO s (p+i) hlt]at tk hz hb
  have h01:=hb _ List.mem_cons_self
  have e1:∀b:Int,nB (List.take 1 (b::ak s (p+i+1)))=b:=fun b=>by simp[nB]
  rw[e1]at tk
  generalize dz s ((p+i:Nat):Int)=b at *
  rcases h01 with rfl|rfl
  ·have hz':zer (ak s p)=(i+1)+zer (ak s (p+(i+1))):=by
    have e0:zer (0::ak s (p+i+1))=zer (ak s (p+i+1))+1:=by rw[zer,if_pos rfl]
    rw[show p+(i+1)=p+i+1 from rfl];omega
   repeat' (first|refine aa.aD ?_|refine aa.bh true ?_|refine aa.az [0] ( tk) ?_|refine aa.au ?_|refine aa.ai ?_|refine aa.aj ?_|refine aa.df ?_|refine aa.aB ?_|intro _|refine aa.aP ?_)
   all_goals first
    |exact aa.round [(6,I ((i+1:Nat):Int)),(5, .ptr 0 0)] (8*s.length - (p+(i+1))) (by omega) ⟨rfl,rfl,trivial⟩ ⟨i+1,rfl,by omega,hz',rfl,rfl⟩
    |omega
  ·have hz':zer (ak s p)=i:=by
    have e0:zer (1::ak s (p+i+1))=0:=by rw[zer,if_neg (by decide)]
    omega
   rw[hz']
   repeat' (first|refine aa.aD ?_|refine aa.bh true ?_|refine aa.az [0] ( tk) ?_|refine aa.au ?_|refine aa.ai ?_|refine aa.aj ?_|refine aa.df ?_|refine aa.aB ?_|intro _|refine aa.aP ?_)
   all_goals first|exact⟨rfl,rfl⟩|omega
 ·rw[if_pos (by omega),if_pos (by omega)]at tk
  have hz':zer (ak s p)=i:=by rw[hz,kP s (p+i) hge,zer];omega
  rw[hz']
  repeat' (first|refine aa.aD ?_|refine aa.bh true ?_|refine aa.az [0] ( tk) ?_|refine aa.au ?_|refine aa.ai ?_|refine aa.aj ?_|refine aa.df ?_|refine aa.aB ?_|intro _|refine aa.aP ?_)
  all_goals first|exact⟨rfl,rfl⟩|omega
end Mk
namespace Mk
open Go Bt
theorem Hf (l:List Int):∀a:Int,l.foldl (fun a b=>2*a+b) a=a*2^l.length+nB l:=by
 induction l with
 |nil=>intro a;simp[nB]
 |cons b l ih =>
  intro a
  have h0:nB (b::l)=b*2^l.length+nB l:=by
   show List.foldl _ (2*0+b) l=_
   rw[ih];simp
  rw[h0,List.foldl_cons,ih,List.length_cons,Int.pow_succ,Int.add_mul,Int.mul_comm 2 a,Int.mul_assoc,Int.mul_comm 2 (2^l.length)]
  omega
theorem mO (a b:List Int):nB (a++b)=nB a*2^b.length+nB b:=by
 have:=Hf b (nB a)
 rw[←this]
 simp[nB,List.foldl_append]
theorem xU:∀(n:Nat) (a b:List Int),a.length=n→b.length=n→(∀x∈a,x=0∨x=1)→(∀x∈b,x=0∨x=1)→nB a=nB b→a=b
 |0,a,b,ha,hb,_,_,_=>by rw[List.eq_nil_of_length_eq_zero ha,List.eq_nil_of_length_eq_zero hb]
 |n+1,a,b,ha,hb,h1,h2,h=>by
  have na:a≠[]:=fun e=>by rw[e]at ha;simp at ha
  have nb:b≠[]:=fun e=>by rw[e]at hb;simp at hb
  have ea:=(List.dropLast_concat_getLast na).symm
  have eb:=(List.dropLast_concat_getLast nb).symm
  have la:=h1 _ (List.getLast_mem na)
  have lb:=h2 _ (List.getLast_mem nb)
  rw[ea,eb,iz,iz]at h
  have:=xU n a.dropLast b.dropLast (by rw[List.length_dropLast];omega) (by rw[List.length_dropLast];omega) (fun x hx=>h1 x (List.dropLast_subset _ hx)) (fun x hx=>h2 x (List.dropLast_subset _ hx)) (by omega)
  rw[ea,eb,this]
  congr 2
  rw[this]at h
  omega
theorem jZ (l:List Int) (h:∀x∈l,x=0∨x=1):gH (l.map bM)=nB l:=by
 have:∀(l:List Int) (a:Int),(∀x∈l,x=0∨x=1)→(l.map bM).foldl (fun n c=>2*n+((c.toNat:Int) - 48)) a=l.foldl (fun a b=>2*a+b) a:=by
  intro l
  induction l with
  |nil=>intro a _;rfl
  |cons b l ih =>
   intro a hl
   rw[List.map_cons,List.foldl_cons,List.foldl_cons,ih _ fun x hx=>hl x (List.mem_cons_of_mem _ hx)]
   congr 2
   rcases hl b List.mem_cons_self with rfl|rfl<;>rfl
 exact this l 0 h
theorem qA (a b:List Int) (h1:∀x∈a,x=0∨x=1) (h2:∀x∈b,x=0∨x=1) (h:a.map bM=b.map bM):a=b:=by
 have e:∀l:List Int,(∀x∈l,x=0∨x=1)→(l.map bM).map und=l:=by
  intro l hl
  rw[List.map_map]
  conv=>rhs;rw[←List.map_id l]
  exact List.map_congr_left fun x hx=>yY x (hl x hx)
 rw[←e a h1,←e b h2,h]
def cF:List UInt8:=[48,48,48,48,48,48,48,48,48,48,48,48,48,48,48,48,49]
theorem LI:cF=([0,0,0,0,0,0,0,0,0,0,0,0,0,0,0,0,1]:List Int).map bM:=rfl
theorem LG (l:List Int) (hl:l.length=17) (h:∀x∈l,x=0∨x=1):l.map bM=cF↔nB l=1:=by
 rw[LI]
 have h2:∀x∈([0,0,0,0,0,0,0,0,0,0,0,0,0,0,0,0,1]:List Int),x=0∨x=1:=by decide
 constructor
 ·intro e
  rw[qA _ _ h h2 e];rfl
 ·intro e
  rw[xU 17 l _ hl rfl h h2 (by rw[e];rfl)]
theorem AO (s:List UInt8) (p:Nat) (h:p+22≤8*s.length) :
  nB ((ak s p).take 22) / 32=nB ((ak s p).take 17)∧nB ((ak s p).take 22)%32=nB ((ak s (p+17)).take 5):=by
 have e:(ak s p).take 22=(ak s p).take 17++((ak s p).drop 17).take 5:=by
  rw[show (22:Nat)=17+5 from rfl,List.take_add]
 have hd:(ak s p).drop 17=ak s (p+17):=by
  apply List.ext_getElem?
  intro j
  rw[List.getElem?_drop]
  unfold ak
  simp only[List.getElem?_map]
  by_cases hj:17+j<8*s.length - p
  ·rw[List.getElem?_range hj,List.getElem?_range (by omega)]
   simp only[Option.map_some]
   congr 2;omega
  ·rw[List.getElem?_eq_none (by simpa using hj),List.getElem?_eq_none (by simp;omega)];rfl
 rw[hd]at e
 have l5:=take_len s (p+17) 5 (by omega)
 obtain⟨b0,b1⟩:=jd 5 _ l5 (dQ s (p+17) 5)
 rw[e,mO,l5]
 have:(2:Int)^5=32:=rfl
 omega
theorem ou (s:List UInt8) (p n:Nat):((aS s).take (p+n)).drop p=((ak s p).take n).map bM:=by
 rw[List.drop_take,Nat.add_sub_cancel_left,iW,List.map_take]
end Mk
namespace Mk
open Go Bt
attribute [local irreducible] aa ACalls
variable {gl:List (Nat×List D)}
theorem xZ (l:List Int) (h:∀x∈l,x=0∨x=1):(l.map bM).all bZ=true:=by
 rw[List.all_eq_true]
 intro c hc
 obtain⟨x,hx,rfl⟩:=List.mem_map.1 hc
 rcases h x hx with rfl|rfl<;>decide
attribute [local irreducible] aS ak gH bM
theorem F8 (s:List UInt8) (p:Nat) (hs:s.length<1000000000000000) (hp:p≤8*s.length):ACalls (cxg gl) 118 [S (aS s),I p] [] (fun r H=>r=Ce (atB s p)∧H=[]):=by
 have hl:=cZ s
 unfold atB
 by_cases h:8*s.length<p+22
 ·rw[if_pos h]
  refine ACalls.en Tryz.func118 Tryz.ntmps118 ?_
  repeat' (first|refine aa.aD ?_|refine aa.bh true ?_|refine aa.ae ?_|refine aa.af ?_|refine aa.aj ?_|refine aa.aK ?_|refine aa.bD ?_|intro _|refine aa.av ?_)
  all_goals first|exact⟨rfl,rfl⟩|omega
 ·rw[if_neg h]
  obtain⟨a1,a2⟩:=AO s p (by omega)
  rw[a1,a2]
  have w1:=ou s p 17
  have w2:=ou s (p+17) 5
  have l1:=take_len s p 17 (by omega)
  have l2:=take_len s (p+17) 5 (by omega)
  have m1:=LG _ l1 (dQ s p 17)
  have nc:=l7 (gl:=gl) (((ak s (p+17)).take 5).map bM) (by rw[List.length_map];omega) (xZ _ (dQ s (p+17) 5))
  rw[jZ _ (dQ s (p+17) 5)]at nc
  have i1:(p:Int).toNat=p:=by omega
  have i2:((p:Int)+17).toNat=p+17:=by omega
  have i3:((p:Int)+22).toNat=p+17+5:=by omega
  have w3:List.drop (p:Int).toNat (List.take ((p:Int)+17).toNat (aS s))=((ak s p).take 17).map bM:=by rw[i1,i2];exact w1
  have w4:List.drop ((p:Int)+17).toNat (List.take ((p:Int)+22).toNat (aS s))=((ak s (p+17)).take 5).map bM:=by rw[i2,i3];exact w2
  rw[←w3]at m1
  rw[←w4]at nc
  generalize nB ((ak s p).take 17)=V at *
  generalize nB ((ak s (p+17)).take 5)=W at *
  by_cases hv:V=1
  ·rw[if_pos hv]
   have m2:(!decide (List.drop (p:Int).toNat (List.take ((p:Int)+17).toNat (aS s))=cF))=false:=by
    rw[decide_eq_true (m1.2 hv)];rfl
   refine ACalls.en Tryz.func118 Tryz.ntmps118 ?_
   repeat' (first|refine aa.aD ?_|refine aa.bh true ?_|refine aa.ah (nc) ?_|refine aa.ae ?_|refine aa.af ?_|refine aa.aj ?_|(apply aa.cBT;rfl;first|(simp only[bT];omega)|(exact m2))|(apply aa.cBF;rfl;first|(simp only[bF];omega)|exact ndF rfl|(exact m2))|intro _|refine aa.av ?_)
   all_goals first|exact⟨rfl,rfl⟩|omega
  ·rw[if_neg hv]
   have m2:(!decide (List.drop (p:Int).toNat (List.take ((p:Int)+17).toNat (aS s))=cF))=true:=by
    rw[decide_eq_false (fun e=>hv (m1.1 e))];rfl
   refine ACalls.en Tryz.func118 Tryz.ntmps118 ?_
   repeat' (first|refine aa.aD ?_|refine aa.bh true ?_|refine aa.ah (nc) ?_|refine aa.ae ?_|refine aa.af ?_|refine aa.aj ?_|(apply aa.cBT;rfl;first|(simp only[bT];omega)|(exact m2))|(apply aa.cBF;rfl;first|(simp only[bF];omega)|exact ndF rfl|(exact m2))|intro _|refine aa.av ?_)
   all_goals first|exact⟨rfl,rfl⟩|omega
theorem rE (p i:Nat) (h:i≤bW p):(p+i)%8=0↔i=bW p∨(i=0∧bW p=0):=by unfold bW at *;omega
theorem CN (s:List UInt8) (p i:Nat) (hi:i<bW p) (hp:p≤8*s.length) (h0:nB ((ak s p).take i)=0) (hb:dz s ((p+i:Nat):Int)=1):iA s p=false:=by
 have hle:=kD s p hp
 have e1:=mr s p i (by omega)
 have e2:(ak s p).take (bW p)=(ak s p).take (i+1)++((ak s p).drop (i+1)).take (bW p - (i+1)):=by
  rw[←List.take_add];congr 1;omega
 have e3:nB ((ak s p).take (i+1))=1:=by rw[e1,iz,h0,hb];rfl
 have b:=jd _ (((ak s p).drop (i+1)).take (bW p - (i+1))) rfl (fun x hx=>cO s p x (List.drop_subset _ _ (List.mem_of_mem_take hx)))
 have hne:nB ((ak s p).take (bW p))≠0:=by
  rw[e2,mO,e3]
  have:=Int.pow_pos (n:=(2:Int)) (m:=(((ak s p).drop (i+1)).take (bW p - (i+1))).length) (by decide)
  omega
 unfold iA
 simpa using hne
theorem uy (s:List UInt8) (q:Nat) (h:q<8*s.length):bt (aS s) ((q:Nat):Int).toNat=48+dz s (q:Int)∧(dz s (q:Int)=0∨dz s (q:Int)=1):=by
 have h1:=wo s (q:Int) (by omega) (by omega)
 have hb:=(DC s (q:Int)).2
 refine⟨?_,hb⟩
 unfold bt
 rw[List.getD_eq_getElem?_getD,h1]
 rcases hb with e|e<;>rw[e]<;>unfold bM<;>decide
theorem Cz (s:List UInt8) (p:Nat) (hs:s.length<1000000000000000) (hp:p≤8*s.length):ACalls (cxg gl) 60 [S (aS s),I p] [] (fun r H=>r = .bK [I (nxB s p).1,B (nxB s p).2]∧H=[]):=by
 have hl:=cZ s
 have hle:=kD s p hp
 refine ACalls.en Tryz.func60 Tryz.ntmps60 ?_
 repeat (first|refine aa.aD ?_|refine aa.bh true ?_|refine aa.af ?_|refine aa.aj ?_|refine aa.aK ?_|refine aa.bD ?_)
 refine aa.weak (env':=[(1,I ((p+0:Nat):Int)),(0,S (aS s))]) ⟨rfl,rfl,trivial⟩ ?_
 refine aa.loop (fun m env H=>∃i:Nat,m=bW p - i∧i≤bW p∧nB ((ak s p).take i)=0∧env=[(1,I ((p+i:Nat):Int)),(0,S (aS s))]∧H=[]) (bW p)
  ⟨0,rfl,by omega,rfl,rfl,rfl⟩ ?_
 rintro m env H ⟨i,rfl,hi,hz,rfl,rfl⟩
 rcases Nat.lt_or_ge i (bW p)with hlt|hge
 ·obtain⟨b1,b2⟩:=uy s (p+i) (by omega)
  have hm:((p+i:Nat):Int)%8≠0:=by have:=rE p i hi;omega
  rcases b2 with b2|b2
  ·rw[b2]at b1
   have hz':nB ((ak s p).take (i+1))=0:=by rw[mr s p i (by omega),iz,hz,b2];rfl
   repeat' (first|refine aa.aD ?_|refine aa.bh true ?_|refine aa.af ?_|refine aa.aj ?_|refine aa.aK ?_|refine aa.bD ?_|intro _|refine aa.av ?_|refine aa.aP ?_|refine aa.aI ?_)
   all_goals first
    |exact aa.round [(1,I ((p+(i+1):Nat):Int)),(0,S (aS s))] (bW p - (i+1)) (by omega) ⟨rfl,rfl,trivial⟩ ⟨i+1,rfl,hlt,hz',rfl,rfl⟩
    |omega
  ·have hk:=CN s p i hlt hp hz b2
   rw[b2]at b1
   unfold nxB
   simp only[hk,Bool.false_eq_true,if_false]
   repeat' (first|refine aa.aD ?_|refine aa.bh true ?_|refine aa.af ?_|refine aa.aj ?_|refine aa.aK ?_|refine aa.bD ?_|intro _|refine aa.av ?_|refine aa.aP ?_|refine aa.aI ?_)
   all_goals first|exact⟨rfl,rfl⟩|omega
 ·obtain rfl:i=bW p:=by omega
  have hk:iA s p=true:=by unfold iA;simpa using hz
  have hm:((p+bW p:Nat):Int)%8=0:=by have:=rE p (bW p) hi;omega
  have ra:=F8 (gl:=gl) s (p+bW p) hs hle
  unfold nxB
  simp only[hk,if_true]
  generalize atB s (p+bW p)=M at *
  obtain⟨v,e⟩:=M
  simp only at ra ⊢
  have he:(e==(0:Int))=decide (e=0):=by by_cases h:e=0<;>simp[h]
  rw[he]
  repeat' (first|refine aa.aD ?_|refine aa.bh true ?_|refine aa.ah (ra) ?_|refine aa.af ?_|refine aa.aj ?_|refine aa.aK ?_|refine aa.bD ?_|intro _|refine aa.av ?_|refine aa.aP ?_|refine aa.aI ?_)
  all_goals first|exact⟨rfl,rfl⟩|omega
end Mk
namespace Mk
open Go Bt
attribute [local irreducible] aa ACalls
variable {gl:List (Nat×List D)}
def rhT (s:List UInt8) (p:Nat) (k:Int):Int×Int×Int×Nat :=
 if (nxB s p).2 then
  if (nxB s p).1=k then
   if 8*s.length<p+bW p+22+7 then (0,0,2,p+bW p+22)
   else (nB ((ak s (p+bW p+22)).take 7) / 32,nB ((ak s (p+bW p+22)).take 7)%32,if nB ((ak s (p+bW p+22)).take 7)%32=0 then 9 else 0,p+bW p+22+7)
  else (0,0,10,p)
 else (0,0,4,p)
theorem xQ (s:List UInt8) (p:Nat) (h:(nxB s p).2=true):iA s p=true∧p+bW p+22≤8*s.length:=by
 unfold nxB at h
 cases hk:iA s p with
 |false=>rw[hk]at h;simp at h
 |true =>
  rw[hk]at h
  simp only[if_true,beq_iff_eq]at h
  refine⟨rfl,?_⟩
  unfold atB at h
  split at h
  ·cases h
  ·omega
attribute [local irreducible] nxB iA
theorem M6 (s:List UInt8) (p:Nat) (k:Int) (hk : -9223372036854775808≤k∧k≤9223372036854775807) (hs:s.length<1000000000000000) (hp:p≤8*s.length):ACalls (cxg gl) 265 [.ptr 0 0,I k] [Rd s p] (fun r H=>r = .bK [I (rhT s p k).1,I (rhT s p k).2.1,I (rhT s p k).2.2.1]∧H=[Rd s ((rhT s p k).2.2.2:Int)]):=by
 have tx:=Be (gl:=gl) s p
 have a0:=qX (gl:=gl) s p
 have nx:=CV (gl:=gl) s p hs hp
 have fl:=BU (gl:=gl) s p hs hp
 have ok:=xQ s p
 unfold rhT
 generalize nxB s p=X at *
 obtain⟨n,b⟩:=X
 simp only at nx ok ⊢
 cases b with
 |false =>
  simp only[Bool.false_eq_true,if_false]
  refine ACalls.en Tryz.func265 Tryz.ntmps265 ?_
  repeat' (first|refine aa.aD ?_|refine aa.bh true ?_|refine aa.az [0] ( tx) ?_|refine aa.az [0] ( a0) ?_|refine aa.ah (nx) ?_|refine aa.ae ?_|refine aa.af ?_|refine aa.au ?_|refine aa.ai ?_|refine aa.aj ?_|refine aa.bq ?_|refine aa.aK ?_|refine aa.bD ?_|refine aa.aB ?_|intro _|refine aa.av ?_)
  all_goals first|exact⟨rfl,rfl⟩|omega
 |true =>
  obtain⟨o1,o2⟩:=ok rfl
  rw[o1]at fl
  simp only[if_true]at fl ⊢
  by_cases hn:n=k
  ·rw[if_pos hn]
   have t22:=iO (gl:=gl) s (p+bW p) 22 hs (by omega) (by omega)
   have t7:=iO (gl:=gl) s (p+bW p+22) 7 hs (by omega) (by omega)
   unfold pkN tkN at t22 t7
   rw[if_neg (by omega),if_neg (by omega)]at t22
   generalize p+bW p=q at *
   by_cases h7:8*s.length<q+22+7
   ·rw[if_pos h7,if_pos h7]at t7
    rw[if_pos h7]
    refine ACalls.en Tryz.func265 Tryz.ntmps265 ?_
    repeat' (first|refine aa.aD ?_|refine aa.bh true ?_|refine aa.az [0] ( tx) ?_|refine aa.az [0] ( a0) ?_|refine aa.az [0] ( fl) ?_|refine aa.az [0] ( t22) ?_|refine aa.az [0] ( t7) ?_|refine aa.ah (nx) ?_|refine aa.ae ?_|refine aa.af ?_|refine aa.au ?_|refine aa.ai ?_|refine aa.aj ?_|refine aa.bq ?_|refine aa.aK ?_|refine aa.bD ?_|refine aa.aB ?_|intro _|refine aa.av ?_)
    all_goals first|exact⟨rfl,rfl⟩|omega
   ·rw[if_neg h7,if_neg h7]at t7
    rw[if_neg h7]
    obtain⟨v0,v1⟩:=jd 7 _ (take_len s (q+22) 7 (by omega)) (dQ s (q+22) 7)
    have ha:=KC _ v0
    generalize nB ((ak s (q+22)).take 7)=V at *
    rw[←ha]
    by_cases hv:((V.toNat &&& (31:Int).toNat:Nat):Int)=0
    ·rw[if_pos hv]
     refine ACalls.en Tryz.func265 Tryz.ntmps265 ?_
     repeat' (first|refine aa.aD ?_|refine aa.bh true ?_|refine aa.az [0] ( tx) ?_|refine aa.az [0] ( a0) ?_|refine aa.az [0] ( fl) ?_|refine aa.az [0] ( t22) ?_|refine aa.az [0] ( t7) ?_|refine aa.ah (nx) ?_|refine aa.ae ?_|refine aa.af ?_|refine aa.au ?_|refine aa.ai ?_|refine aa.aj ?_|refine aa.bq ?_|refine aa.aK ?_|refine aa.bD ?_|refine aa.aB ?_|intro _|refine aa.av ?_)
     all_goals first|exact⟨rfl,rfl⟩|omega
    ·rw[if_neg hv]
     refine ACalls.en Tryz.func265 Tryz.ntmps265 ?_
     repeat' (first|refine aa.aD ?_|refine aa.bh true ?_|refine aa.az [0] ( tx) ?_|refine aa.az [0] ( a0) ?_|refine aa.az [0] ( fl) ?_|refine aa.az [0] ( t22) ?_|refine aa.az [0] ( t7) ?_|refine aa.ah (nx) ?_|refine aa.ae ?_|refine aa.af ?_|refine aa.au ?_|refine aa.ai ?_|refine aa.aj ?_|refine aa.bq ?_|refine aa.aK ?_|refine aa.bD ?_|refine aa.aB ?_|intro _|refine aa.av ?_)
     all_goals first|exact⟨rfl,rfl⟩|omega
  ·rw[if_neg hn]
   refine ACalls.en Tryz.func265 Tryz.ntmps265 ?_
   repeat' (first|refine aa.aD ?_|refine aa.bh true ?_|refine aa.az [0] ( tx) ?_|refine aa.az [0] ( a0) ?_|refine aa.ah (nx) ?_|refine aa.ae ?_|refine aa.af ?_|refine aa.au ?_|refine aa.ai ?_|refine aa.aj ?_|refine aa.bq ?_|refine aa.aK ?_|refine aa.bD ?_|refine aa.aB ?_|intro _|refine aa.av ?_)
   all_goals first|exact⟨rfl,rfl⟩|omega
end Mk
namespace Mk
open Go Bt
attribute [local irreducible] aa ACalls
variable {gl:List (Nat×List D)}
theorem F3 (s:List UInt8) (p:Nat) (k:Int) (hp:p≤8*s.length):(rhT s p k).2.2.2≤8*s.length∧p≤(rhT s p k).2.2.2:=by
 unfold rhT
 split
 ·rename_i h
  have:=(xQ s p h).2
  split
  ·split<;>simp<;>omega
  ·simp;omega
 ·simp;omega
def rhX (s:List UInt8) (p:Nat) (k:Int):Int×Int×Int×Nat:=if (rhT s p k).2.2.1=0 then rhT s p k else (0,0,(rhT s p k).2.2.1,p)
attribute [local irreducible] rhT
theorem FY (s:List UInt8) (p:Nat) (k:Int) (hk : -9223372036854775808≤k∧k≤9223372036854775807) (hs:s.length<1000000000000000) (hp:p≤8*s.length):ACalls (cxg gl) 235 [.ptr 0 0,I k] [Rd s p] (fun r H=>r = .bK [I (rhX s p k).1,I (rhX s p k).2.1,I (rhX s p k).2.2.1]∧H=[Rd s ((rhX s p k).2.2.2:Int)]):=by
 have a0:=qX (gl:=gl) s p
 have tk:=M6 (gl:=gl) s p k hk hs hp
 have hle:=F3 s p k hp
 unfold rhX
 generalize rhT s p k=T at *
 obtain⟨i,q,e,u⟩:=T
 simp only at tk hle ⊢
 have sk:=fG (gl:=gl) s u p hs ⟨by omega,by omega⟩
 by_cases he:e=0
 ·subst he
  simp only[if_true]
  refine ACalls.en Tryz.func235 Tryz.ntmps235 ?_
  repeat' (first|refine aa.aD ?_|refine aa.bh true ?_|refine aa.az [0] ( a0) ?_|refine aa.az [0] ( tk) ?_|refine aa.ai ?_|refine aa.aK ?_|intro _|refine aa.av ?_)
  all_goals first|exact⟨rfl,rfl⟩|omega
 ·rw[if_neg he]
  refine ACalls.en Tryz.func235 Tryz.ntmps235 ?_
  repeat' (first|refine aa.aD ?_|refine aa.bh true ?_|refine aa.az [0] ( a0) ?_|refine aa.az [0] ( tk) ?_|refine aa.az [0] ( sk) ?_|refine aa.ai ?_|refine aa.aK ?_|intro _|refine aa.av ?_)
  all_goals first|exact⟨rfl,rfl⟩|omega
end Mk
namespace Mk
open Go Bt
attribute [local irreducible] aa ACalls
variable {gl:List (Nat×List D)}
theorem p6 (s:List UInt8) (p n:Nat):(ak s p).drop n=ak s (p+n):=by
 apply List.ext_getElem?
 intro j
 rw[List.getElem?_drop]
 unfold ak
 simp only[List.getElem?_map]
 by_cases hj:n+j<8*s.length - p
 ·rw[List.getElem?_range hj,List.getElem?_range (by omega)]
  simp only[Option.map_some]
  congr 2;omega
 ·rw[List.getElem?_eq_none (by simpa using hj),List.getElem?_eq_none (by simp;omega)];rfl
theorem Gq (s:List UInt8) (p n m:Nat) (h:p+n+m≤8*s.length):nB ((ak s p).take (n+m))=nB ((ak s p).take n)*2^m+nB ((ak s (p+n)).take m):=by
 rw[List.take_add,p6,mO,take_len s (p+n) m (by omega)]
theorem tH (s:List UInt8) (p n:Nat) (hn:n≤8) (h:p+n≤8*s.length):ACalls (cxg gl) 130 [S (((aS s).take (p+n)).drop p)] [] (fun r H=>r=I (nB ((ak s p).take n))∧H=[]):=by
 have l:=take_len s p n h
 have nc:=l7 (gl:=gl) (((ak s p).take n).map bM) (by rw[List.length_map];omega) (xZ _ (dQ s p n))
 rw[jZ _ (dQ s p n)]at nc
 rw[ou];exact nc
attribute [local irreducible] aS ak nxB iA
theorem Lf (s:List UInt8) (p:Nat) (k:Int) (hk : -9223372036854775808≤k∧k≤9223372036854775807) (hs:s.length<1000000000000000) (hp:p≤8*s.length):ACalls (cxg gl) 61 [S (aS s),I p,I k] [] (fun r H=>r = .bK [I (rhX s p k).1,I (rhX s p k).2.1,I ((rhX s p k).2.2.2:Int),I (rhX s p k).2.2.1]∧H=[]):=by
 have hl:=cZ s
 have nx:=Cz (gl:=gl) s p hs hp
 have ok:=xQ s p
 unfold rhX rhT
 generalize nxB s p=X at *
 obtain⟨n,b⟩:=X
 simp only at nx ok ⊢
 cases b with
 |false =>
  simp only[Bool.false_eq_true,if_false]
  refine ACalls.en Tryz.func61 Tryz.ntmps61 ?_
  repeat' (first|refine aa.aD ?_|refine aa.bh true ?_|refine aa.dK true ?_|refine aa.fP true ?_|refine aa.ah (nx) ?_|refine aa.bI (nx) ?_|refine aa.bP ?_|refine aa.aV ?_|refine aa.aW ?_|refine aa.ae ?_|refine aa.af ?_|refine aa.au ?_|refine aa.ai ?_|refine aa.aG ?_|refine aa.ba ?_|refine aa.aA ?_|refine aa.aL ?_|refine aa.kX ?_|refine aa.aj ?_|refine aa.aU ?_|refine aa.iV ?_|refine aa.bL ?_|refine aa.uI ?_|refine aa.uA ?_|refine aa.bq ?_|refine aa.uJ ?_|refine aa.uB ?_|refine aa.aK ?_|refine aa.bD ?_|refine aa.df ?_|refine aa.pJ ?_|refine aa.pF ?_|refine aa.dN ?_|refine aa.pK ?_|refine aa.pG ?_|refine aa.aB ?_|refine aa.cG ?_|refine aa.jG ?_|refine aa.aF ?_|apply aa.cK|apply aa.lpU|intro _|(apply aa.ed ;rfl)|((first|apply aa.gD|apply aa.qgD|apply aa.sgD);rfl;rfl;rfl)|((first|apply aa.gS|apply aa.qgS|apply aa.sgS);rfl;rfl;rfl)|(apply aa.iE;rfl)|refine aa.av ?_|refine aa.aP ?_|refine aa.iT ?_|refine aa.aI ?_)
  all_goals first|exact⟨rfl,rfl⟩|omega
 |true =>
  obtain⟨o1,o2⟩:=ok rfl
  simp only[if_true]
  by_cases hn:n=k
  ·subst hn
   rw[if_pos rfl]
   refine ACalls.en Tryz.func61 Tryz.ntmps61 ?_
   repeat (first|refine aa.aD ?_|refine aa.bh true ?_|refine aa.dK true ?_|refine aa.fP true ?_|refine aa.ah (nx) ?_|refine aa.bI (nx) ?_|refine aa.bP ?_|refine aa.aV ?_|refine aa.aW ?_|refine aa.ae ?_|refine aa.af ?_|refine aa.au ?_|refine aa.ai ?_|refine aa.aG ?_|refine aa.ba ?_|refine aa.aA ?_|refine aa.aL ?_|refine aa.kX ?_|refine aa.aj ?_|refine aa.aU ?_|refine aa.iV ?_|refine aa.bL ?_|refine aa.uI ?_|refine aa.uA ?_|refine aa.bq ?_|refine aa.uJ ?_|refine aa.uB ?_|refine aa.aK ?_|refine aa.bD ?_|refine aa.df ?_|refine aa.pJ ?_|refine aa.pF ?_|refine aa.dN ?_|refine aa.pK ?_|refine aa.pG ?_|refine aa.aB ?_|refine aa.cG ?_|refine aa.jG ?_|refine aa.aF ?_)
   refine aa.weak (env':=[(12,I ((p+0:Nat):Int)),(1,I p),(0,S (aS s))]) ⟨rfl,rfl,rfl,trivial⟩ ?_
   refine aa.loop (fun m env H=>∃i:Nat,m=bW p - i∧i≤bW p∧env=[(12,I ((p+i:Nat):Int)),(1,I p),(0,S (aS s))]∧H=[]) (bW p)
    ⟨0,rfl,by omega,rfl,rfl⟩ ?_
   rintro m env H ⟨i,rfl,hi,rfl,rfl⟩
   rcases Nat.lt_or_ge i (bW p)with hlt|hge
   ·have hm:((p+i:Nat):Int)%8≠0:=by have:=rE p i hi;omega
    repeat' (first|refine aa.aD ?_|refine aa.bh true ?_|refine aa.dK true ?_|refine aa.fP true ?_|refine aa.bP ?_|refine aa.aV ?_|refine aa.aW ?_|refine aa.ae ?_|refine aa.af ?_|refine aa.au ?_|refine aa.ai ?_|refine aa.aG ?_|refine aa.ba ?_|refine aa.aA ?_|refine aa.aL ?_|refine aa.kX ?_|refine aa.aj ?_|refine aa.aU ?_|refine aa.iV ?_|refine aa.bL ?_|refine aa.uI ?_|refine aa.uA ?_|refine aa.bq ?_|refine aa.uJ ?_|refine aa.uB ?_|refine aa.aK ?_|refine aa.bD ?_|refine aa.df ?_|refine aa.pJ ?_|refine aa.pF ?_|refine aa.dN ?_|refine aa.pK ?_|refine aa.pG ?_|refine aa.aB ?_|refine aa.cG ?_|refine aa.jG ?_|refine aa.aF ?_|intro _|(apply aa.ed ;rfl)|((first|apply aa.gD|apply aa.qgD|apply aa.sgD);rfl;rfl;rfl)|((first|apply aa.gS|apply aa.qgS|apply aa.sgS);rfl;rfl;rfl)|(apply aa.iE;rfl)|refine aa.av ?_|refine aa.aP ?_|refine aa.iT ?_|refine aa.aI ?_)
    all_goals first
     |exact aa.round [(12,I ((p+(i+1):Nat):Int)),(1,I p),(0,S (aS s))] (bW p - (i+1)) (by omega) ⟨rfl,rfl,rfl,trivial⟩ ⟨i+1,rfl,hlt,rfl,rfl⟩
     |omega
   ·obtain rfl:i=bW p:=by omega
    have hm:((p+bW p:Nat):Int)%8=0:=by have:=rE p (bW p) hi;omega
    generalize p+bW p=q at *
    by_cases h7:8*s.length<q+22+7
    ·rw[if_pos h7]
     repeat' (first|refine aa.aD ?_|refine aa.bh true ?_|refine aa.dK true ?_|refine aa.fP true ?_|refine aa.bP ?_|refine aa.aV ?_|refine aa.aW ?_|refine aa.ae ?_|refine aa.af ?_|refine aa.au ?_|refine aa.ai ?_|refine aa.aG ?_|refine aa.ba ?_|refine aa.aA ?_|refine aa.aL ?_|refine aa.kX ?_|refine aa.aj ?_|refine aa.aU ?_|refine aa.iV ?_|refine aa.bL ?_|refine aa.uI ?_|refine aa.uA ?_|refine aa.bq ?_|refine aa.uJ ?_|refine aa.uB ?_|refine aa.aK ?_|refine aa.bD ?_|refine aa.df ?_|refine aa.pJ ?_|refine aa.pF ?_|refine aa.dN ?_|refine aa.pK ?_|refine aa.pG ?_|refine aa.aB ?_|refine aa.cG ?_|refine aa.jG ?_|refine aa.aF ?_|intro _|(apply aa.ed ;rfl)|((first|apply aa.gD|apply aa.qgD|apply aa.sgD);rfl;rfl;rfl)|((first|apply aa.gS|apply aa.qgS|apply aa.sgS);rfl;rfl;rfl)|(apply aa.iE;rfl)|refine aa.av ?_|refine aa.aP ?_|refine aa.iT ?_|refine aa.aI ?_)
     all_goals first|exact⟨rfl,rfl⟩|omega
    ·rw[if_neg h7]
     have n2:=tH (gl:=gl) s (q+22) 2 (by omega) (by omega)
     have n5:=tH (gl:=gl) s (q+22+2) 5 (by omega) (by omega)
     have sp:=Gq s (q+22) 2 5 (by omega)
     obtain⟨v0,v1⟩:=jd 5 _ (take_len s (q+22+2) 5 (by omega)) (dQ s (q+22+2) 5)
     rw[show 2+5=7 from rfl]at sp
     rw[show (2:Int)^5=32 from rfl]at sp v1
     have d1:nB ((ak s (q+22)).take 7) / 32=nB ((ak s (q+22)).take 2):=by omega
     have d2:nB ((ak s (q+22)).take 7)%32=nB ((ak s (q+22+2)).take 5):=by omega
     rw[d1,d2]
     have i1:((q:Int)+22).toNat=q+22:=by omega
     have i2:((q:Int)+22+2).toNat=q+22+2:=by omega
     have i3:((q:Int)+22+7).toNat=q+22+2+5:=by omega
     generalize nB ((ak s (q+22)).take 2)=V at *
     generalize nB ((ak s (q+22+2)).take 5)=W at *
     rw[←i2]at n2
     rw[←i3]at n5
     rw[←i1]at n2
     rw[←i2]at n5
     by_cases hv:W=0
     ·subst hv
      repeat' (first|refine aa.aD ?_|refine aa.bh true ?_|refine aa.dK true ?_|refine aa.fP true ?_|refine aa.ah (n5) ?_|refine aa.bI (n5) ?_|refine aa.ah (n2) ?_|refine aa.bI (n2) ?_|refine aa.bP ?_|refine aa.aV ?_|refine aa.aW ?_|refine aa.ae ?_|refine aa.af ?_|refine aa.au ?_|refine aa.ai ?_|refine aa.aG ?_|refine aa.ba ?_|refine aa.aA ?_|refine aa.aL ?_|refine aa.kX ?_|refine aa.aj ?_|refine aa.aU ?_|refine aa.iV ?_|refine aa.bL ?_|refine aa.uI ?_|refine aa.uA ?_|refine aa.bq ?_|refine aa.uJ ?_|refine aa.uB ?_|refine aa.aK ?_|refine aa.bD ?_|refine aa.df ?_|refine aa.pJ ?_|refine aa.pF ?_|refine aa.dN ?_|refine aa.pK ?_|refine aa.pG ?_|refine aa.aB ?_|refine aa.cG ?_|refine aa.jG ?_|refine aa.aF ?_|intro _|(apply aa.ed ;rfl)|((first|apply aa.gD|apply aa.qgD|apply aa.sgD);rfl;rfl;rfl)|((first|apply aa.gS|apply aa.qgS|apply aa.sgS);rfl;rfl;rfl)|(apply aa.iE;rfl)|refine aa.av ?_|refine aa.aP ?_|refine aa.iT ?_|refine aa.aI ?_)
      all_goals first|exact⟨rfl,rfl⟩|omega
     ·simp only[if_neg hv,if_true]
      repeat' (first|refine aa.aD ?_|refine aa.bh true ?_|refine aa.dK true ?_|refine aa.fP true ?_|refine aa.ah (n5) ?_|refine aa.bI (n5) ?_|refine aa.ah (n2) ?_|refine aa.bI (n2) ?_|refine aa.bP ?_|refine aa.aV ?_|refine aa.aW ?_|refine aa.ae ?_|refine aa.af ?_|refine aa.au ?_|refine aa.ai ?_|refine aa.aG ?_|refine aa.ba ?_|refine aa.aA ?_|refine aa.aL ?_|refine aa.kX ?_|refine aa.aj ?_|refine aa.aU ?_|refine aa.iV ?_|refine aa.bL ?_|refine aa.uI ?_|refine aa.uA ?_|refine aa.bq ?_|refine aa.uJ ?_|refine aa.uB ?_|refine aa.aK ?_|refine aa.bD ?_|refine aa.df ?_|refine aa.pJ ?_|refine aa.pF ?_|refine aa.dN ?_|refine aa.pK ?_|refine aa.pG ?_|refine aa.aB ?_|refine aa.cG ?_|refine aa.jG ?_|refine aa.aF ?_|intro _|(apply aa.ed ;rfl)|((first|apply aa.gD|apply aa.qgD|apply aa.sgD);rfl;rfl;rfl)|((first|apply aa.gS|apply aa.qgS|apply aa.sgS);rfl;rfl;rfl)|(apply aa.iE;rfl)|refine aa.av ?_|refine aa.aP ?_|refine aa.iT ?_|refine aa.aI ?_)
      all_goals first|exact⟨rfl,rfl⟩|omega
  ·rw[if_neg hn]
   refine ACalls.en Tryz.func61 Tryz.ntmps61 ?_
   repeat' (first|refine aa.aD ?_|refine aa.bh true ?_|refine aa.dK true ?_|refine aa.fP true ?_|refine aa.ah (nx) ?_|refine aa.bI (nx) ?_|refine aa.bP ?_|refine aa.aV ?_|refine aa.aW ?_|refine aa.ae ?_|refine aa.af ?_|refine aa.au ?_|refine aa.ai ?_|refine aa.aG ?_|refine aa.ba ?_|refine aa.aA ?_|refine aa.aL ?_|refine aa.kX ?_|refine aa.aj ?_|refine aa.aU ?_|refine aa.iV ?_|refine aa.bL ?_|refine aa.uI ?_|refine aa.uA ?_|refine aa.bq ?_|refine aa.uJ ?_|refine aa.uB ?_|refine aa.aK ?_|refine aa.bD ?_|refine aa.df ?_|refine aa.pJ ?_|refine aa.pF ?_|refine aa.dN ?_|refine aa.pK ?_|refine aa.pG ?_|refine aa.aB ?_|refine aa.cG ?_|refine aa.jG ?_|refine aa.aF ?_|apply aa.cK|apply aa.lpU|intro _|(apply aa.ed ;rfl)|((first|apply aa.gD|apply aa.qgD|apply aa.sgD);rfl;rfl;rfl)|((first|apply aa.gS|apply aa.qgS|apply aa.sgS);rfl;rfl;rfl)|(apply aa.iE;rfl)|refine aa.av ?_|refine aa.aP ?_|refine aa.iT ?_|refine aa.aI ?_)
   all_goals first|exact⟨rfl,rfl⟩|omega
end Mk
namespace Mk
open Go Bt
attribute [local irreducible] aa ACalls
variable {gl:List (Nat×List D)}
def mkM (s:List UInt8) (p:Nat):Int×Nat :=
 if p%8=0 then (if (atB s p).2=0 then (if (atB s p).1=0 then (0,p+22) else (4,p)) else ((atB s p).2,p)) else (4,p)
theorem yL (s:List UInt8) (p:Nat) (h:(atB s p).2=0):p+22≤8*s.length:=by
 unfold atB at h
 split at h
 ·cases h
 ·omega
attribute [local irreducible] atB
theorem LN (s:List UInt8) (p:Nat) (hs:s.length<1000000000000000) (hp:p≤8*s.length):ACalls (cxg gl) 190 [.ptr 0 0] [Rd s p] (fun r H=>r=I (mkM s p).1∧H=[Rd s ((mkM s p).2:Int)]):=by
 have tx:=Be (gl:=gl) s p
 have a0:=qX (gl:=gl) s p
 have ma:=CY (gl:=gl) s p hs hp
 have ok:=yL s p
 have t22:=iO (gl:=gl) s p 22 hs hp (by omega)
 unfold pkN tkN at t22
 unfold mkM
 generalize atB s p=A at *
 obtain⟨v,e⟩:=A
 simp only at ma ok ⊢
 by_cases h8:p%8=0
 ·rw[if_pos h8]
  have h8':(p:Int)%8=0:=by omega
  by_cases he:e=0
  ·subst he
   have o:=ok rfl
   rw[if_neg (by omega),if_neg (by omega)]at t22
   simp only[if_true]
   by_cases hv:v=0
   ·subst hv
    simp only[if_true]
    refine ACalls.en Tryz.func190 Tryz.ntmps190 ?_
    repeat' (first|refine aa.aD ?_|refine aa.bh true ?_|refine aa.az [0] ( a0) ?_|refine aa.az [0] ( tx) ?_|refine aa.az [0] ( t22) ?_|refine aa.ah (ma) ?_|refine aa.ae ?_|refine aa.af ?_|refine aa.ai ?_|refine aa.aj ?_|refine aa.bq ?_|refine aa.aK ?_|refine aa.bD ?_|refine aa.aB ?_|intro _|(apply aa.iE;rfl)|refine aa.av ?_)
    all_goals first|exact⟨rfl,rfl⟩|omega|(exfalso;rename_i hx;simp_all;done)
   ·rw[if_neg hv]
    refine ACalls.en Tryz.func190 Tryz.ntmps190 ?_
    repeat' (first|refine aa.aD ?_|refine aa.bh true ?_|refine aa.az [0] ( a0) ?_|refine aa.az [0] ( tx) ?_|refine aa.az [0] ( t22) ?_|refine aa.ah (ma) ?_|refine aa.ae ?_|refine aa.af ?_|refine aa.ai ?_|refine aa.aj ?_|refine aa.bq ?_|refine aa.aK ?_|refine aa.bD ?_|refine aa.aB ?_|intro _|(apply aa.iE;rfl)|refine aa.av ?_)
    all_goals first|exact⟨rfl,rfl⟩|omega|(exfalso;rename_i hx;simp_all;done)
  ·rw[if_neg he]
   refine ACalls.en Tryz.func190 Tryz.ntmps190 ?_
   repeat' (first|refine aa.aD ?_|refine aa.bh true ?_|refine aa.az [0] ( a0) ?_|refine aa.az [0] ( tx) ?_|refine aa.az [0] ( t22) ?_|refine aa.ah (ma) ?_|refine aa.ae ?_|refine aa.af ?_|refine aa.ai ?_|refine aa.aj ?_|refine aa.bq ?_|refine aa.aK ?_|refine aa.bD ?_|refine aa.aB ?_|intro _|(apply aa.iE;rfl)|refine aa.av ?_)
   all_goals first|exact⟨rfl,rfl⟩|omega|(exfalso;rename_i hx;simp_all;done)
 ·rw[if_neg h8]
  have h8':(p:Int)%8≠0:=by omega
  refine ACalls.en Tryz.func190 Tryz.ntmps190 ?_
  repeat' (first|refine aa.aD ?_|refine aa.bh true ?_|refine aa.az [0] ( a0) ?_|refine aa.ae ?_|refine aa.af ?_|refine aa.ai ?_|refine aa.aj ?_|refine aa.bq ?_|refine aa.aK ?_|refine aa.bD ?_|refine aa.aB ?_|intro _|(apply aa.iE;rfl)|refine aa.av ?_)
  all_goals first|exact⟨rfl,rfl⟩|omega|(exfalso;rename_i hx;simp_all;done)
end Mk
end Go.Proofs.YtbpednchkndocaaGreatDoor.Av
