/- Cells: the reference's Row. Cells as arguments. -/
import Derived.Test.YtbpednchkndocaaGreatDoorCo6
import Derived.Test.YtbpednchkndocaaGreatDoorPs2
import Derived.Test.YtbpednchkndocaaGreatDoorCo4
set_option linter.unusedVariables false
set_option linter.unusedSimpArgs false
set_option maxRecDepth 100000
set_option maxHeartbeats 64000000
namespace Go.Proofs.YtbpednchkndocaaGreatDoor.Av
namespace Co
open Go Bt Tc Wr Bl Mb Cb Mv
attribute [local irreducible] aa ACalls
variable {gl:List (Nat×List D)}
theorem MM(w:List UInt8)(b:Bool)(px py:Int)(c:Cel):putRow w b px py c=w++putRow [] b px py c:=by
 unfold putRow;split<;>simp only[List.append_assoc,List.nil_append]
attribute [local irreducible] bS eD cN iO lN iJ dI eB bH sD kE kF aL dw
end Co
section
open Go
theorem bW.agg{cs ds:List D}(hl:ds.length=cs.length)(hone:∀d∈ds,d.one=true)(h:∀(i:Nat) (c d:D),cs[i]?=some c→ds[i]?=some d→bW c d):bW (.agg cs) (.agg ds):=fun imm v hv=>by
 cases hv with
 |agg vs _ h1 h2 h3 =>
  refine .agg vs ds (by omega) hone fun i d hd=>?_
  have hi:i<cs.length:=by have:=aI hd;omega
  exact h i _ d (List.getElem?_eq_getElem hi) hd imm _ (h3 i _ (List.getElem?_eq_getElem hi))
end
namespace Co
open Go Bt Tc
theorem gX{d:D}(h:∃n,[d]=[.int .i64 n]∧(Lit.int .i64 n).wf=true):∃n,d=In n∧I64 n:=by
 obtain⟨n,h1,h2⟩:=h;exact⟨n,by simpa using h1,LH h2⟩
theorem ug{d:D}(h:∃b,[d]=[.bool b]):∃b,d = .bool b:=by
 obtain⟨b,h1⟩:=h;exact⟨b,by simpa using h1⟩
def EP(l:List Ev):Prop:=l.length≤9223372036854775807∧∀e∈l,Br e
structure LS(c:Cel):Prop where
 stuff:I64 c.stuff
 kind:I64 c.kind
 step:I64 c.step
 x:I64 c.mx
 y:I64 c.my
 e0:EP c.e0
 e1:EP c.e1
 e2:EP c.e2
 e3:EP c.e3
 e4:EP c.e4
 e5:EP c.e5
end Co
namespace Sh
open Go Bt Tc Co
attribute [local irreducible] aa ACalls
variable {gl:List (Nat×List D)}
def ym(i:Nat)(r:Rw):Bool:=if r.head=true then decide (i≠0∧(0≤r.id∧r.id≤3)∧(1≤r.quant∧r.quant≤31)) else decide (r.id=0∧r.quant=0)
def pR(h:Hd)(i:Nat)(r:Rw):Bool:=decide ((r.cells.length:Int)=fA h.fmt*fL h.fmt)&&ym i r&&r.cells.all (dK h.inter)
theorem KG(f:Int):0≤fA f*fL f∧fA f*fL f≤1000:=by
 rcases Qk f with rfl|rfl|rfl|rfl|rfl|rfl|h
 rotate_right
 ·obtain⟨e1,e2,e3,e4,e5⟩:=Qn h;unfold fA;rw[e1,e4];decide
 all_goals decide
theorem GN{l:List Cel}{k:Nat}{c:Cel}(b:Bool)(h:l[k]?=some c):(l.take (k+1)).all (dK b)=((l.take k).all (dK b)&&dK b c):=by
 rw[pK h,List.all_append];simp
theorem QX{l:List Cel}{k:Nat}{c:Cel}{b:Bool}(h:l[k]?=some c)(hn:dK b c=false):l.all (dK b)=false :=
 List.all_eq_false.2 ⟨c,List.mem_of_getElem? h,by rw[hn];decide⟩
attribute [local irreducible] bS suD bD rsD dK
theorem Pk(h:Hd)(rs:List Rw)(z:Int)(i:Nat)(r:Rw)(hr:rs[i]?=some r)(ok:jX rs):
  ACalls (cxg gtc) 73 [.d (shD h (rsD rs) z),I (i:Int)] [] (fun x H=>x=B (pR h i r)∧H=[]):=by
 have hn:=ko rs;have hf:=ok.few;have hlt:i<rs.length:=aI hr;have g1:=oH hr;obtain⟨hrl,hrc⟩:=ok.cells r (List.mem_of_getElem? hr);have hm:=ig r.cells;have hP:=KG h.fmt;have k1:=jM (gl:=gtc) h.fmt;have k2:=rH (gl:=gtc) h.fmt;unfold pR;generalize fL h.fmt=L at *;generalize fA h.fmt=A at *;generalize fR h.fmt=R at *;generalize fD h.fmt=E at *;generalize hPP:A*L=P at *;have hm64 : -9223372036854775808≤A*L∧A*L≤9223372036854775807:=by rw[hPP];omega
 obtain⟨hd,id,q,cs⟩:=r
 replace hm:(bD cs).length=cs.length:=hm
 replace hrc:∀c∈cs,kG c:=hrc
 by_cases hlen:(cs.length:Int)=P
 ·rw[show decide (((Rw.mk hd id q cs).cells.length:Int)=P)=true from decide_eq_true hlen,Bool.true_and];cases hh:ym i ⟨hd,id,q,cs⟩with
  | false =>
   rw[Bool.false_and];cases hd
   ·have hh':¬(id=0∧q=0):=of_decide_eq_false hh;refine ACalls.en Tryz.func73 Tryz.ntmps73 ?_;repeat' (first|refine aa.aF ?_|(apply aa.opx;(apply bR;(iterate 7 rfl);(first|omega|(exact hm64)|(rw[hn];omega));exact g1);rfl;rfl;rfl)|(apply aa.q true;rfl;rfl;rfl;rfl;first|exact True.intro|omega|(simp only[tn,Int.reduceToNat];omega)|(exact hm64)|(rw[hn];omega))|refine aa.av (k1) ?_|refine aa.av (k2) ?_|refine aa.ah ?_|refine aa.ae ?_|refine aa.aB ?_|refine aa.ak ?_|refine aa.aH ?_|refine aa.aM ?_|refine aa.aD ?_|refine aa.au ?_|refine aa.bg ?_|refine aa.aQ ?_|refine aa.bX ?_|refine aa.eG ?_|refine aa.aC ?_|intro _|(apply aa.gD;rfl;rfl;rfl)|(apply aa.gS;rfl;rfl;rfl)|(apply aa.kD;rfl)|refine aa.aA ?_|refine aa.aP ?_|refine aa.aJ ?_)
    all_goals first|exact⟨rfl,rfl⟩|omega|(exfalso;simp only[bT,bF,Bool.not_false,Bool.not_true]at *;omega)
   ·have hh':¬(i≠0∧(0≤id∧id≤3)∧(1≤q∧q≤31)):=of_decide_eq_false hh;refine ACalls.en Tryz.func73 Tryz.ntmps73 ?_;repeat' (first|refine aa.aF ?_|(apply aa.opx;(apply bR;(iterate 7 rfl);(first|omega|(exact hm64)|(rw[hn];omega));exact g1);rfl;rfl;rfl)|(apply aa.q true;rfl;rfl;rfl;rfl;first|exact True.intro|omega|(simp only[tn,Int.reduceToNat];omega)|(exact hm64)|(rw[hn];omega))|refine aa.av (k1) ?_|refine aa.av (k2) ?_|refine aa.ah ?_|refine aa.ae ?_|refine aa.aB ?_|refine aa.ak ?_|refine aa.aH ?_|refine aa.aM ?_|refine aa.aD ?_|refine aa.au ?_|refine aa.bg ?_|refine aa.aQ ?_|refine aa.bX ?_|refine aa.eG ?_|refine aa.aC ?_|intro _|(apply aa.gD;rfl;rfl;rfl)|(apply aa.gS;rfl;rfl;rfl)|(apply aa.kD;rfl)|refine aa.aA ?_|refine aa.aP ?_|refine aa.aJ ?_)
    all_goals first|exact⟨rfl,rfl⟩|omega|(exfalso;simp only[bT,bF,Bool.not_false,Bool.not_true]at *;omega)
  | true =>
   rw[Bool.true_and];have hh':(hd=false∧id=0∧q=0)∨(hd=true∧i≠0∧(0≤id∧id≤3)∧(1≤q∧q≤31)):=by
    cases hd
    ·exact .inl ⟨rfl,of_decide_eq_true hh⟩
    ·exact .inr ⟨rfl,of_decide_eq_true hh⟩
   rcases hh' with⟨rfl,hh1⟩|⟨rfl,hh1⟩;all_goals
    refine ACalls.en Tryz.func73 Tryz.ntmps73 ?_;repeat' (first|refine aa.aF ?_|(apply aa.opx;(apply bR;(iterate 7 rfl);(first|omega|(exact hm64)|(rw[hn];omega));exact g1);rfl;rfl;rfl)|(apply aa.q true;rfl;rfl;rfl;rfl;first|exact True.intro|omega|(simp only[tn,Int.reduceToNat];omega)|(exact hm64)|(rw[hn];omega))|refine aa.av (k1) ?_|refine aa.av (k2) ?_|refine aa.ah ?_|refine aa.ae ?_|refine aa.aB ?_|refine aa.ak ?_|refine aa.aH ?_|refine aa.aM ?_|refine aa.aD ?_|refine aa.au ?_|refine aa.bg ?_|refine aa.aQ ?_|refine aa.bX ?_|refine aa.eG ?_|refine aa.aC ?_|intro _|(apply aa.gD;rfl;rfl;rfl)|(apply aa.gS;rfl;rfl;rfl)|(apply aa.kD;rfl)|refine aa.aA ?_|refine aa.aP ?_|refine aa.aJ ?_)
    all_goals first|omega|(exfalso;simp only[bT,bF,Bool.not_false,Bool.not_true]at *;omega)|skip
    refine aa.weak (env':=[(81,I ((0:Nat):Int)),(80,I ((bD cs).length:Int)),(79, .d (.sl 18 (bD cs))),(2, .ptr 0 0)]) ⟨rfl,rfl,rfl,rfl,trivial⟩ ?_;refine aa.loop (fun m env H=>∃k:Nat,m=cs.length-k∧k≤cs.length∧(cs.take k).all (dK h.inter)=true∧env=[(81,I (k:Int)),(80,I ((bD cs).length:Int)),(79, .d (.sl 18 (bD cs))),(2, .ptr 0 0)]∧∃R,H=[.cells (shA h (rsD rs) z), .cells (rwA R)]) cs.length
     ⟨0,rfl,by omega,by simp,rfl,⟨_,id,q,cs⟩,rfl⟩ ?_
    rintro m env H ⟨k,rfl,hk,hal,rfl,R,rfl⟩;rcases Nat.lt_or_ge k cs.length with hlt2|hge2
    ·obtain⟨c,hc⟩:∃c,cs[k]?=some c:=⟨_,List.getElem?_eq_getElem hlt2⟩;have g2:=kT hc;have cr:=C9 h.inter c (hrc c (List.mem_of_getElem? hc));have et:=GN h.inter hc;rw[hal,Bool.true_and]at et;cases hR:dK h.inter c with
     | true =>
      rw[hR]at cr et;repeat' (first|refine aa.aF ?_|refine aa.vp ?_|refine aa.q'j true ?_|refine aa.av (cr) ?_|refine aa.ah ?_|refine aa.ae ?_|refine aa.aB ?_|refine aa.ak ?_|refine aa.aH ?_|refine aa.aM ?_|refine aa.aD ?_|refine aa.au ?_|refine aa.bg ?_|refine aa.aQ ?_|refine aa.bX ?_|refine aa.eG ?_|refine aa.aC ?_|intro _|(apply aa.gD;rfl;rfl;rfl)|(apply aa.gS;rfl;rfl;rfl)|(apply aa.kD;rfl)|refine aa.aA ?_|refine aa.aP ?_|refine aa.aJ ?_)
      all_goals first
       |exact aa.jr 2 [(81,I ((k+1:Nat):Int)),(80,I ((bD cs).length:Int)),(79, .d (.sl 18 (bD cs))),(2, .ptr 0 0)] (cs.length-(k+1)) (by omega) rfl rfl rfl rfl ⟨rfl,rfl,rfl,rfl,trivial⟩ ⟨k+1,rfl,hlt2,et,rfl,_,rfl⟩
       |omega
     |false =>
      rw[hR]at cr;have hno:=QX hc hR;repeat' (first|refine aa.aF ?_|refine aa.vp ?_|refine aa.q'j true ?_|refine aa.av (cr) ?_|refine aa.ah ?_|refine aa.ae ?_|refine aa.aB ?_|refine aa.ak ?_|refine aa.aH ?_|refine aa.aM ?_|refine aa.aD ?_|refine aa.au ?_|refine aa.bg ?_|refine aa.aQ ?_|refine aa.bX ?_|refine aa.eG ?_|refine aa.aC ?_|intro _|(apply aa.gD;rfl;rfl;rfl)|(apply aa.gS;rfl;rfl;rfl)|(apply aa.kD;rfl)|refine aa.aA ?_|refine aa.aP ?_|refine aa.aJ ?_)
      all_goals first|exact⟨congrArg B hno.symm,rfl⟩|omega
    ·obtain rfl:k=cs.length:=by omega
     rw[List.take_length]at hal;repeat' (first|refine aa.aF ?_|refine aa.bh true ?_|refine aa.ah ?_|refine aa.ae ?_|refine aa.aB ?_|refine aa.ak ?_|refine aa.aH ?_|refine aa.aM ?_|refine aa.aD ?_|refine aa.au ?_|refine aa.bg ?_|refine aa.aQ ?_|refine aa.bX ?_|refine aa.eG ?_|refine aa.aC ?_|intro _|(apply aa.gD;rfl;rfl;rfl)|(apply aa.gS;rfl;rfl;rfl)|(apply aa.kD;rfl)|refine aa.aA ?_|refine aa.aP ?_|refine aa.aJ ?_)
     all_goals first|exact⟨congrArg B hal.symm,rfl⟩|omega
 ·rw[show decide (((Rw.mk hd id q cs).cells.length:Int)=P)=false from decide_eq_false hlen,Bool.false_and,Bool.false_and];refine ACalls.en Tryz.func73 Tryz.ntmps73 ?_;repeat' (first|refine aa.aF ?_|(apply aa.opx;(apply bR;(iterate 7 rfl);(first|omega|(exact hm64)|(rw[hn];omega));exact g1);rfl;rfl;rfl)|(apply aa.q true;rfl;rfl;rfl;rfl;first|exact True.intro|omega|(simp only[tn,Int.reduceToNat];omega)|(exact hm64)|(rw[hn];omega))|refine aa.av (k1) ?_|refine aa.av (k2) ?_|refine aa.ah ?_|refine aa.ae ?_|refine aa.aB ?_|refine aa.ak ?_|refine aa.aH ?_|refine aa.aM ?_|refine aa.aD ?_|refine aa.au ?_|refine aa.bg ?_|refine aa.aQ ?_|refine aa.bX ?_|refine aa.eG ?_|refine aa.aC ?_|intro _|(apply aa.gD;rfl;rfl;rfl)|(apply aa.gS;rfl;rfl;rfl)|(apply aa.kD;rfl)|refine aa.aA ?_|refine aa.aP ?_|refine aa.aJ ?_)
  all_goals first|exact⟨rfl,rfl⟩|omega|(exfalso;simp only[bT,bF,Bool.not_false,Bool.not_true]at *;omega)
def gJ(h:Hd)(rs:List Rw):Nat→Bool
 |0=>true
 |n+1=>gJ h rs n&&(match rs[n]? with|some r=>pR h n r|none=>true)
theorem oI{h:Hd}{rs:List Rw}{n:Nat}{r:Rw}(hr:rs[n]?=some r):gJ h rs (n+1)=(gJ h rs n&&pR h n r):=by simp only[gJ,hr]
theorem BM{h:Hd}{rs:List Rw}{n:Nat}(hn:gJ h rs n=false):∀k,gJ h rs (n+k)=false
 |0=>hn
 |k+1=>by
  have:=BM hn k;rw[←Nat.add_assoc,gJ,this,Bool.false_and]
theorem zU{h:Hd}{rs:List Rw}{n:Nat}{r:Rw}(hr:rs[n]?=some r)(hn:pR h n r=false):gJ h rs rs.length=false:=by
 have h1:gJ h rs (n+1)=false:=by rw[oI hr,hn,Bool.and_false]
 have h2:=aI hr;have:=BM h1 (rs.length-(n+1))
 rwa [show n+1+(rs.length-(n+1))=rs.length by omega]at this
attribute [local irreducible] pR gJ
theorem Gb(h:Hd)(rs:List Rw)(z:Int)(ok:jX rs):
  ACalls (cxg gtc) 72 [I (rs.length:Int), .fn (.func 73) [.d (shD h (rsD rs) z)] []] [] (fun x H=>x=B (gJ h rs rs.length)∧H=[]):=by
 have hf:=ok.few;have r0:gJ h rs 0=true:=by unfold gJ;rfl
 refine ACalls.en Tryz.func72 Tryz.ntmps72 ?_;repeat (first|refine aa.aF ?_|refine aa.bh true ?_|refine aa.ah ?_|refine aa.ae ?_|refine aa.aB ?_|refine aa.ak ?_)
 refine aa.weak (env':=[(7,I ((0:Nat):Int)),(6,I (rs.length:Int)),(1, .fn (.func 73) [.d (shD h (rsD rs) z)] [])]) ⟨rfl,rfl,rfl,trivial⟩ ?_;refine aa.loop (fun m env H=>∃k:Nat,m=rs.length-k∧k≤rs.length∧gJ h rs k=true∧env=[(7,I (k:Int)),(6,I (rs.length:Int)),(1, .fn (.func 73) [.d (shD h (rsD rs) z)] [])]∧H=[]) rs.length
  ⟨0,rfl,by omega,r0,rfl,rfl⟩ ?_
 rintro m env H ⟨k,rfl,hk,hal,rfl,rfl⟩;rcases Nat.lt_or_ge k rs.length with hlt|hge
 ·obtain⟨r,hr⟩:∃r,rs[k]?=some r:=⟨_,List.getElem?_eq_getElem hlt⟩;have cr:=Pk h rs z k r hr ok;have et:=oI (h:=h) hr;rw[hal,Bool.true_and]at et;cases hR:pR h k r with
  | true =>
   rw[hR]at cr et;repeat' (first|refine aa.aF ?_|refine aa.bh true ?_|refine aa.av (cr) ?_|refine aa.ah ?_|refine aa.ae ?_|refine aa.aB ?_|refine aa.ak ?_|intro _|refine aa.aA ?_|refine aa.aP ?_|refine aa.aJ ?_)
   all_goals first
    |exact aa.round [(7,I ((k+1:Nat):Int)),(6,I (rs.length:Int)),(1, .fn (.func 73) [.d (shD h (rsD rs) z)] [])] (rs.length-(k+1)) (by omega) ⟨rfl,rfl,rfl,trivial⟩ ⟨k+1,rfl,hlt,et,rfl,rfl⟩
    |omega
  |false =>
   rw[hR]at cr;have hno:=zU hr hR;repeat' (first|refine aa.aF ?_|refine aa.bh true ?_|refine aa.av (cr) ?_|refine aa.ah ?_|refine aa.ae ?_|refine aa.aB ?_|refine aa.ak ?_|intro _|refine aa.aA ?_|refine aa.aP ?_|refine aa.aJ ?_)
   all_goals first|exact⟨congrArg B hno.symm,rfl⟩|omega
 ·obtain rfl:k=rs.length:=by omega
  repeat' (first|refine aa.aF ?_|refine aa.bh true ?_|refine aa.ah ?_|refine aa.ae ?_|refine aa.aB ?_|refine aa.ak ?_|intro _|refine aa.aA ?_|refine aa.aP ?_|refine aa.aJ ?_)
  all_goals first|exact⟨congrArg B hal.symm,rfl⟩|omega
end Sh
end Go.Proofs.YtbpednchkndocaaGreatDoor.Av
