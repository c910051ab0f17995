/- Sheets that may be: sound.Check. -/
import Derived.Test.YtbpednchkndocaaGreatDoorPy10
import Derived.Test.YtbpednchkndocaaGreatDoorPs2
import Derived.Test.YtbpednchkndocaaGreatDoorCo6
set_option linter.unusedVariables false
set_option linter.unusedSimpArgs false
set_option maxRecDepth 100000
set_option maxHeartbeats 64000000
namespace Go.Proofs.YtbpednchkndocaaGreatDoor.Av
namespace Sh
open Go Bt Tc Co Wr
attribute [local irreducible] aa ACalls
variable {gl:List (Nat×List D)}
def mvP(c:Cel):Int×Int:=(c.mx,c.my)
def mK(f:Int)(n:Nat)(c:Cel):Bool:=aL c.kind||rP f n (mvP c)
def eH(f:Int)(l:List Cel):Nat→Bool
 |0=>true
 |n+1=>eH f l n&&(match l[n]? with|some c=>mK f n c|none=>true)
theorem rD{f:Int}{l:List Cel}{n:Nat}{c:Cel}(hc:l[n]?=some c):eH f l (n+1)=(eH f l n&&mK f n c):=by simp only[eH,hc]
theorem Bz{f:Int}{l:List Cel}{n:Nat}(hn:eH f l n=false):∀k,eH f l (n+k)=false
 |0=>hn
 |k+1=>by
  have:=Bz hn k;rw[←Nat.add_assoc,eH,this,Bool.false_and]
theorem zM{f:Int}{l:List Cel}{n:Nat}{c:Cel}(hc:l[n]?=some c)(hn:mK f n c=false):eH f l l.length=false:=by
 have h1:eH f l (n+1)=false:=by rw[rD hc,hn,Bool.and_false]
 have h2:=aI hc;have:=Bz h1 (l.length-(n+1))
 rwa [show n+1+(l.length-(n+1))=l.length by omega]at this
def ib(h:Hd)(rs:List Rw)(z:Int):Bool:=nu h&&decide (0≤z∧z≤262144)&&decide ((rs.length:Int)=fR h.fmt)&&gJ h rs rs.length
def dE(h:Hd)(rs:List Rw)(z:Int):Int:=if ib h rs z=true then (if eH h.fmt (cellsOf rs) (cellsOf rs).length=true then 0 else 8) else 12
theorem wU{h:Hd}{n:Nat}{r:Rw}(hr:pR h n r=true):(r.cells.length:Int)=fA h.fmt*fL h.fmt:=by
 unfold pR at hr;simp only[Bool.and_eq_true,decide_eq_true_eq]at hr;exact hr.1.1
theorem yF{h:Hd}{rs:List Rw}:∀n,n≤rs.length→gJ h rs n=true→((cellsOf (rs.take n)).length:Int)=n*(fA h.fmt*fL h.fmt)
 |0,_,_=>by simp[cellsOf]
 |n+1,hn,hh=>by
  obtain⟨r,hr⟩:∃r,rs[n]?=some r:=⟨_,List.getElem?_eq_getElem (by omega)⟩;rw[oI hr,Bool.and_eq_true]at hh;have ih:=yF n (by omega) hh.1;have hl:=wU hh.2;rw[iz hr,List.length_append,Int.natCast_add,ih,hl,Int.natCast_add,Int.add_mul];simp
theorem KC{f:Int}(h:fOk f=true):fR f*(fA f*fL f)=fA f*fD f:=by
 have hb:=qj h;have:f=1∨f=2∨f=3∨f=4∨f=5∨f=6:=by omega
 rcases this with rfl|rfl|rfl|rfl|rfl|rfl<;>decide
theorem fM{h:Hd}{rs:List Rw}{z:Int}(hh:ib h rs z=true):nu h=true∧(0≤z∧z≤262144)∧(rs.length:Int)=fR h.fmt∧gJ h rs rs.length=true:=by
 unfold ib at hh;simp only[Bool.and_eq_true,decide_eq_true_eq]at hh;exact⟨hh.1.1.1,hh.1.1.2,hh.1.2,hh.2⟩
theorem lW{h:Hd}{rs:List Rw}{z:Int}(hh:ib h rs z=true):fOk h.fmt=true∧((cellsOf rs).length:Int)=fA h.fmt*fD h.fmt:=by
 obtain⟨h1,h2,h3,h4⟩:=fM hh;have hf:=(nV h1).1.1;refine⟨hf,?_⟩;have:=yF rs.length (Nat.le_refl _) h4;rw[List.take_length,h3,KC hf]at this;exact this
attribute [local irreducible] bS suD bD rsD dK gJ nu bY bI bJ dC rP
theorem K9(h:Hd)(rs:List Rw)(z:Int)(ok:jX rs)(hl:h.supp.length≤100)(hno:ib h rs z=false):
  ACalls (cxg gtc) 21 [.d (shD h (rsD rs) z)] [] (fun x H=>x=I 12∧H=[]):=by
 have hn:=ko rs;have k2:=rH (gl:=gtc) h.fmt;have nw:=rA (gl:=gtc);cases hh:nu h with
 |false =>
  have sp:=IY (gl:=gtc) h (rsD rs) z [] hh hl;refine ACalls.en Tryz.func21 Tryz.ntmps21 ?_;repeat' (first|refine aa.aF ?_|(apply aa.gu [0,1,2,3,4,5,6,7,8,9,10,11,12,13,14,15,16,17,18,19,20,21,22,23,24,25,26,27] 28;rfl)|refine aT.cL ?_|(apply aT.go)|refine aT.dh ?_|refine aT.ku true ?_|refine aT.gq ?_|(apply aT.two;rfl;rfl;rfl;kernel_rfl)|(exact aa.fg)|(refine aa.bv ?_;rfl)|refine aa.bh true ?_|refine aa.aj [] (nw) ?_|refine aa.aj [1,2] (sp) ?_|refine aa.av (k2) ?_|refine aa.aB ?_|refine aa.aM ?_|refine aa.au ?_|refine aa.cf ?_|refine aa.bg ?_|refine aa.fI ?_|refine aa.eG ?_|refine aa.aC ?_|intro _|refine aa.aA ?_)
  all_goals exact Tn
 | true =>
  have sp:=DN (gl:=gtc) h (rsD rs) z [] 0 hh ⟨rfl,by simp⟩ (by omega);unfold ib at hno;rw[hh,Bool.true_and]at hno;by_cases hz:0≤z∧z≤262144
  ·rw[decide_eq_true hz,Bool.true_and]at hno;by_cases hR:(rs.length:Int)=fR h.fmt
   ·rw[decide_eq_true hR,Bool.true_and]at hno;have ev:=Gb h rs z ok;rw[hno]at ev;rw[←hR]at k2;refine ACalls.en Tryz.func21 Tryz.ntmps21 ?_;repeat' (first|refine aa.aF ?_|(apply aa.gu [0,1,2,3,4,5,6,7,8,9,10,11,12,13,14,15,16,17,18,19,20,21,22,23,24,25,26,27] 28;rfl)|refine aT.cL ?_|(apply aT.go)|refine aT.dh ?_|refine aT.ku true ?_|refine aT.gq ?_|(apply aT.two;rfl;rfl;rfl;kernel_rfl)|(exact aa.fg)|(refine aa.bv ?_;rfl)|refine aa.bh true ?_|refine aa.aj [] (nw) ?_|refine aa.aj [1,2] (sp) ?_|refine aa.av (k2) ?_|refine aa.av (ev) ?_|refine aa.aB ?_|refine aa.aM ?_|refine aa.au ?_|refine aa.cf ?_|refine aa.bg ?_|refine aa.fI ?_|refine aa.eG ?_|refine aa.aC ?_|intro _|refine aa.aA ?_)
    all_goals exact Tn
   ·refine ACalls.en Tryz.func21 Tryz.ntmps21 ?_;repeat' (first|refine aa.aF ?_|(apply aa.gu [0,1,2,3,4,5,6,7,8,9,10,11,12,13,14,15,16,17,18,19,20,21,22,23,24,25,26,27] 28;rfl)|refine aT.cL ?_|(apply aT.go)|refine aT.dh ?_|refine aT.ku true ?_|refine aT.gq ?_|(apply aT.two;rfl;rfl;rfl;kernel_rfl)|(exact aa.fg)|(refine aa.bv ?_;rfl)|refine aa.bh true ?_|refine aa.aj [] (nw) ?_|refine aa.aj [1,2] (sp) ?_|refine aa.av (k2) ?_|refine aa.aB ?_|refine aa.aM ?_|refine aa.au ?_|refine aa.cf ?_|refine aa.bg ?_|refine aa.fI ?_|refine aa.eG ?_|refine aa.aC ?_|intro _|refine aa.aA ?_)
    all_goals exact Tn
  ·rcases (show z<0∨262144<z by omega)with hz0|hz0;all_goals
    refine ACalls.en Tryz.func21 Tryz.ntmps21 ?_;repeat' (first|refine aa.aF ?_|(apply aa.gu [0,1,2,3,4,5,6,7,8,9,10,11,12,13,14,15,16,17,18,19,20,21,22,23,24,25,26,27] 28;rfl)|refine aT.cL ?_|(apply aT.go)|refine aT.dh ?_|refine aT.ku true ?_|refine aT.gq ?_|(apply aT.two;rfl;rfl;rfl;kernel_rfl)|(exact aa.fg)|(refine aa.bv ?_;rfl)|refine aa.bh true ?_|refine aa.aj [] (nw) ?_|refine aa.aj [1,2] (sp) ?_|refine aa.av (k2) ?_|refine aa.aB ?_|refine aa.aM ?_|refine aa.au ?_|refine aa.cf ?_|refine aa.bg ?_|refine aa.fI ?_|refine aa.eG ?_|refine aa.aC ?_|intro _|refine aa.aA ?_)
    all_goals exact Tn
end Sh
namespace Sh
open Go Bt Tc Co Wr
attribute [local irreducible] aa ACalls
variable {gl:List (Nat×List D)}
theorem BB(f:Int)(n:Nat)(c:Cel):(c.kind=3∧mK f n c=true)∨(c.kind=4∧mK f n c=true)∨(c.kind≠3∧c.kind≠4∧mK f n c=rP f n (mvP c)):=by
 unfold mK aL;by_cases h3:c.kind=3
 ·exact .inl ⟨h3,by rw[decide_eq_true (.inl h3)];rfl⟩
 ·by_cases h4:c.kind=4
  ·exact .inr (.inl ⟨h4,by rw[decide_eq_true (.inr h4)];rfl⟩)
  ·exact .inr (.inr ⟨h3,h4,by rw[decide_eq_false (by omega)];rfl⟩)
attribute [local irreducible] bS suD bD rsD dK gJ nu bY bI bJ dC rP eH mK cellsOf
theorem HZ(h:Hd)(rs:List Rw)(z:Int)(ok:jX rs)(hl:h.supp.length≤100)(hyes:ib h rs z=true):
  ACalls (cxg gtc) 21 [.d (shD h (rsD rs) z)] [] (fun x H=>x=I (if eH h.fmt (cellsOf rs) (cellsOf rs).length=true then 0 else 8)∧H=[]):=by
 have hn:=ko rs;have k2:=rH (gl:=gtc) h.fmt;have nw:=rA (gl:=gtc);obtain⟨hh,hz,hR,ha⟩:=fM hyes;obtain⟨hf,hlen⟩:=lW hyes;have sp:=DN (gl:=gtc) h (rsD rs) z [] 0 hh ⟨rfl,by simp⟩ (by omega);have ev:=Gb h rs z ok;rw[ha]at ev;rw[←hR]at k2;have sc:=I9 (gl:=gtc) h rs z ok;have hX:=ok.le rs.length;rw[List.take_length]at hX;generalize hL:cellsOf rs=l at *;have hm:=ig l;have v0:eH h.fmt l 0=true:=by unfold eH;rfl
 refine ACalls.en Tryz.func21 Tryz.ntmps21 ?_;repeat' (first|refine aa.aF ?_|(apply aa.gu [0,1,2,3,4,5,6,7,8,9,10,11,12,13,14,15,16,17,18,19,20,21,22,23,24,25,26,27] 28;rfl)|refine aT.cL ?_|(apply aT.go)|refine aT.ku true ?_|refine aT.gq ?_|(apply aT.two;rfl;rfl;rfl;kernel_rfl)|(exact aa.fg)|(refine aa.bv ?_;rfl)|refine aa.bh true ?_|refine aa.aj [] (nw) ?_|refine aa.aj [1,2] (sp) ?_|refine aa.av (k2) ?_|refine aa.av (ev) ?_|refine aa.av (sc) ?_|refine aa.ah ?_|refine aa.ae ?_|refine aa.aB ?_|refine aa.ak ?_|refine aa.aH ?_|refine aa.aM ?_|refine aa.aD ?_|refine aa.au ?_|refine aa.bg ?_|refine aa.fI ?_|refine aa.eG ?_|refine aa.aC ?_|intro _|refine aa.aA ?_|refine aa.aP ?_|refine aa.aJ ?_)
 all_goals
  refine aa.drop 1 (env':=[(44,I ((0:Nat):Int)),(43,I ((bD l).length:Int)),(42, .d (.sl 18 (bD l))),(1, .ptr 0 0)]) (Nat.zero_le _) (by simp) (fun o ho=>gb (m:=1) rfl o ho) ⟨rfl,rfl,rfl,rfl,trivial⟩ (A8 1 _ rfl) ?_;refine aa.loop (fun m env H=>∃k:Nat,m=l.length-k∧k≤l.length∧eH h.fmt l k=true∧env=[(44,I (k:Int)),(43,I ((bD l).length:Int)),(42, .d (.sl 18 (bD l))),(1, .ptr 0 0)]∧H=[.cells (shA h (rsD rs) z)]) l.length
   ⟨0,rfl,by omega,v0,rfl,rfl⟩ ?_
  rintro m env H ⟨k,rfl,hk,hal,rfl,rfl⟩;rcases Nat.lt_or_ge k l.length with hlt|hge
  ·obtain⟨c,hc⟩:∃c,l[k]?=some c:=⟨_,List.getElem?_eq_getElem hlt⟩;have g2:=kT hc;have et:=rD (f:=h.fmt) hc;rw[hal,Bool.true_and]at et;have mm:=JJ (gl:=gtc) h.fmt k (mvP c) hf (by omega);rcases BB h.fmt k c with⟨k3,hv⟩|⟨k4,hv⟩|⟨k3,k4,hv⟩
   ·rw[hv]at et;repeat' (first|refine aa.aF ?_|refine aa.vp ?_|refine aa.q'j true ?_|refine aa.ah ?_|refine aa.ae ?_|refine aa.aB ?_|refine aa.ak ?_|refine aa.aH ?_|refine aa.aM ?_|refine aa.aD ?_|refine aa.au ?_|refine aa.bg ?_|refine aa.fI ?_|refine aa.eG ?_|refine aa.aC ?_|intro _|refine aa.aA ?_|refine aa.aP ?_|refine aa.aJ ?_)
    all_goals first
     |exact aa.jr 1 [(44,I ((k+1:Nat):Int)),(43,I ((bD l).length:Int)),(42, .d (.sl 18 (bD l))),(1, .ptr 0 0)] (l.length-(k+1)) (by omega) rfl rfl rfl rfl ⟨rfl,rfl,rfl,rfl,trivial⟩ ⟨k+1,rfl,hlt,et,rfl,rfl⟩
     |omega
   ·rw[hv]at et;repeat' (first|refine aa.aF ?_|refine aa.vp ?_|refine aa.q'j true ?_|refine aa.ah ?_|refine aa.ae ?_|refine aa.aB ?_|refine aa.ak ?_|refine aa.aH ?_|refine aa.aM ?_|refine aa.aD ?_|refine aa.au ?_|refine aa.bg ?_|refine aa.fI ?_|refine aa.eG ?_|refine aa.aC ?_|intro _|refine aa.aA ?_|refine aa.aP ?_|refine aa.aJ ?_)
    all_goals first
     |exact aa.jr 1 [(44,I ((k+1:Nat):Int)),(43,I ((bD l).length:Int)),(42, .d (.sl 18 (bD l))),(1, .ptr 0 0)] (l.length-(k+1)) (by omega) rfl rfl rfl rfl ⟨rfl,rfl,rfl,rfl,trivial⟩ ⟨k+1,rfl,hlt,et,rfl,rfl⟩
     |omega
   ·cases hM:rP h.fmt k (mvP c)with
    | true =>
     rw[hM]at mm hv;rw[hv]at et;repeat' (first|refine aa.aF ?_|refine aa.vp ?_|refine aa.q'j true ?_|refine aa.av (mm) ?_|refine aa.ah ?_|refine aa.ae ?_|refine aa.aB ?_|refine aa.ak ?_|refine aa.aH ?_|refine aa.aM ?_|refine aa.aD ?_|refine aa.au ?_|refine aa.bg ?_|refine aa.fI ?_|refine aa.eG ?_|refine aa.aC ?_|intro _|refine aa.aA ?_|refine aa.aP ?_|refine aa.aJ ?_)
     all_goals first
      |exact aa.jr 1 [(44,I ((k+1:Nat):Int)),(43,I ((bD l).length:Int)),(42, .d (.sl 18 (bD l))),(1, .ptr 0 0)] (l.length-(k+1)) (by omega) rfl rfl rfl rfl ⟨rfl,rfl,rfl,rfl,trivial⟩ ⟨k+1,rfl,hlt,et,rfl,rfl⟩
      |omega
    |false =>
     rw[hM]at mm hv;have hno:=zM hc hv;rw[hno,if_neg (by decide)];repeat' (first|refine aa.aF ?_|refine aa.vp ?_|refine aa.q'j true ?_|refine aa.av (mm) ?_|refine aa.ah ?_|refine aa.ae ?_|refine aa.aB ?_|refine aa.ak ?_|refine aa.aH ?_|refine aa.aM ?_|refine aa.aD ?_|refine aa.au ?_|refine aa.bg ?_|refine aa.fI ?_|refine aa.eG ?_|refine aa.aC ?_|intro _|refine aa.aA ?_|refine aa.aP ?_|refine aa.aJ ?_)
     all_goals exact Tn
  ·obtain rfl:k=l.length:=by omega
   rw[hal,if_pos rfl];repeat' (first|refine aa.aF ?_|refine aa.bh true ?_|refine aa.ah ?_|refine aa.ae ?_|refine aa.aB ?_|refine aa.ak ?_|refine aa.aH ?_|refine aa.aM ?_|refine aa.aD ?_|refine aa.au ?_|refine aa.bg ?_|refine aa.fI ?_|refine aa.eG ?_|refine aa.aC ?_|intro _|refine aa.aA ?_|refine aa.aP ?_|refine aa.aJ ?_)
   all_goals exact Tn
theorem tY(h:Hd)(rs:List Rw)(z:Int)(ok:jX rs)(hl:h.supp.length≤100):
  ACalls (cxg gtc) 21 [.d (shD h (rsD rs) z)] [] (fun x H=>x=I (dE h rs z)∧H=[]):=by
 unfold dE;cases hf:ib h rs z with
 |true=>rw[if_pos rfl];exact HZ h rs z ok hl hf
 |false=>rw[if_neg (by decide)];exact K9 h rs z ok hl hf
end Sh
end Go.Proofs.YtbpednchkndocaaGreatDoor.Av
