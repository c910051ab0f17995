/- Sheets, to the document, are the same as themselves. -/
import Derived.Test.YtbpednchkndocaaGreatDoorSm0
import Derived.Test.YtbpednchkndocaaGreatDoorPy8
import Derived.Test.YtbpednchkndocaaGreatDoorSi7
set_option linter.unusedVariables false
set_option linter.unusedSimpArgs false
set_option maxRecDepth 100000
set_option maxHeartbeats 64000000
namespace Go.Proofs.YtbpednchkndocaaGreatDoor.Av
namespace Sh
open Go Bt Tc Co
attribute [local irreducible] aa ACalls
variable {gl:List (Nat×List D)}
attribute [local irreducible] Tc.cn suD dZ rsD
abbrev shL (h:Hd) (rs:List D) (z:Int):List D:=[Nn h.ref,Nn h.flags,Nn h.fmt, .bool h.inter,Nn h.quant, .sl 1 (suD h.supp), .sl 4 rs,Nn z]
theorem qc (h:Hd) (rs:List Rw) (z:Int) (hf:rs.length≤1000000) (hcl:∀r∈rs,r.cells.length≤1000000) (hl:h.supp.length≤100) (hb:∀r∈rs,∀c∈r.cells,Cs.yP c):ACalls (cxg gl) 18 [.d (shD h (rsD rs) z), .d (shD h (rsD rs) z)] [] (fun r H=>r=B true∧H=[]):=by
 have hn:=xq rs
 have s24:=Eb (gl:=gl) h (rsD rs) (rsD rs) z z hl
 refine ACalls.en Tryz.func18 Tryz.ntmps18 ?_
 repeat' (first|refine aa.aD ?_|refine aa.FK 0 2 ?_|refine aa.FK 1 3 ?_|refine aa.bh true ?_|refine aa.ah (s24) ?_|refine aa.ae ?_|refine aa.af ?_|refine aa.ai ?_|refine aa.aG ?_|refine aa.ba ?_|refine aa.aA ?_|refine aa.aj ?_|refine aa.bD ?_|refine aa.dN ?_|intro _|refine aa.av ?_|refine aa.aI ?_)
 refine aa.weak (env':=[(5,I ((0:Nat):Int)),(3, .d (.iptr (shL h (rsD rs) z))),(2, .d (.iptr (shL h (rsD rs) z)))]) ⟨rfl,rfl,rfl,trivial⟩ ?_
 refine aa.loop (fun m env H=>∃i:Nat,m=rs.length - i∧i≤rs.length∧env=[(5,I (i:Int)),(3, .d (.iptr (shL h (rsD rs) z))),(2, .d (.iptr (shL h (rsD rs) z)))]∧H=[.gone, .gone]) rs.length
  ⟨0,rfl,by omega,rfl,rfl⟩ ?_
 rintro m env H ⟨i,rfl,hi,rfl,rfl⟩
 rcases Nat.lt_or_ge i rs.length with hlt|hge
 ·obtain⟨r,hr⟩:∃r,rs[i]?=some r:=⟨_,List.getElem?_eq_getElem hlt⟩
  have g1:=IY hr
  have hrm:=List.mem_of_getElem? hr
  have hrl:=hcl r hrm
  have hm:=oL r.cells
  have hcb:=hb r hrm
  repeat' (first|refine aa.aD ?_|(apply aa.Mi [0,1,2,3,4,5,6,7,8,9,10,11,12,13] 14;rfl)|(apply jC.bi;rfl;(apply fS;(iterate 7 rfl);(first|omega|(rw[hn];omega));exact g1);exact fun _ _ _ h=>h;(iterate 5 rfl);kernel_rfl;kernel_rfl)|(apply jC.bi;rfl;(apply aQ.q true;rfl;rfl;first|exact True.intro|omega|(rw[hn];omega));exact fun _ _ _ h=>h;(iterate 5 rfl);kernel_rfl;kernel_rfl)|refine jC.cf ?_|(apply jC.go)|refine gI.bQ ?_|refine gI.kG ?_|(apply gI.iC;rfl;kernel_rfl)|refine jN.dw ?_|(apply gI.back)|(apply aa.Nq)|(apply aa.Np)|(apply aa.q true;rfl;rfl;rfl;rfl;first|exact True.intro|omega|(simp only[tn,Int.reduceToNat];omega)|(rw[hn];omega))|refine aa.ae ?_|refine aa.af ?_|refine aa.ai ?_|refine aa.aG ?_|refine aa.ba ?_|refine aa.aA ?_|refine aa.aj ?_|refine aa.bD ?_|refine aa.dN ?_|intro _|refine aa.av ?_|refine aa.aI ?_)
  ·refine aa.weak (env':=[(8,I ((0:Nat):Int)),(7, .ptr 3 0),(6, .ptr 2 0),(5,I (i:Int)),(3, .d (.iptr (shL h (rsD rs) z))),(2, .d (.iptr (shL h (rsD rs) z)))]) ⟨rfl,rfl,rfl,rfl,rfl,rfl,trivial⟩ ?_
   refine aa.loop (fun m env H=>∃k:Nat,m=r.cells.length - k∧k≤r.cells.length∧env=[(8,I (k:Int)),(7, .ptr 3 0),(6, .ptr 2 0),(5,I (i:Int)),(3, .d (.iptr (shL h (rsD rs) z))),(2, .d (.iptr (shL h (rsD rs) z)))]∧H=[.gone, .gone, .cells (rwA r), .cells (rwA r)]) r.cells.length
    ⟨0,rfl,by omega,rfl,rfl⟩ ?_
   rintro m env H ⟨k,rfl,hk,rfl,rfl⟩
   rcases Nat.lt_or_ge k r.cells.length with hlt2|hge2
   ·obtain⟨c,hc⟩:∃c,r.cells[k]?=some c:=⟨_,List.getElem?_eq_getElem hlt2⟩
    have g2:=wV hc
    have s21:=Cs.qd (gl:=gl) c (hcb c (List.mem_of_getElem? hc))
    repeat' (first|refine aa.aD ?_|(apply aa.cg [0,1,2,3,4,5,6,7,8,9,10,11] 12 12;rfl)|(apply aO.bi;rfl;(apply fS;(iterate 7 rfl);(first|omega|(rw[hm];omega));exact g2);exact fun _ _ _ h=>h;(iterate 6 rfl);kernel_rfl;kernel_rfl)|(apply aO.bi;rfl;(apply aQ.q true;rfl;rfl;first|exact True.intro|omega|(rw[hm];omega));exact fun _ _ _ h=>h;(iterate 6 rfl);kernel_rfl;kernel_rfl)|(apply aO.load;rfl;rfl;(first|exact True.intro|omega|(rw[hm];omega));exact fun _ _ _ h=>h;(iterate 6 rfl);kernel_rfl;kernel_rfl)|(apply aO.go)|refine aC.bQ ?_|(apply aC.bi;rfl;(apply fS;(iterate 7 rfl);(first|omega|(rw[hm];omega));exact g2);exact fun _ _ _ h=>h;(iterate 6 rfl);kernel_rfl;kernel_rfl)|(apply aC.bi;rfl;(apply aQ.q true;rfl;rfl;first|exact True.intro|omega|(rw[hm];omega));exact fun _ _ _ h=>h;(iterate 6 rfl);kernel_rfl;kernel_rfl)|refine aC.aH (s21) ?_|(exact aa.cL)|(apply aa.q true;rfl;rfl;rfl;rfl;first|exact True.intro|omega|(simp only[tn,Int.reduceToNat];omega)|(rw[hm];omega))|refine aa.ah (s21) ?_|refine aa.ae ?_|refine aa.af ?_|refine aa.ai ?_|refine aa.aG ?_|refine aa.ba ?_|refine aa.aA ?_|refine aa.aj ?_|refine aa.bD ?_|refine aa.dN ?_|intro _|refine aa.av ?_|refine aa.aI ?_)
    all_goals first
     |exact aa.round [(8,I ((k+1:Nat):Int)),(7, .ptr 3 0),(6, .ptr 2 0),(5,I (i:Int)),(3, .d (.iptr (shL h (rsD rs) z))),(2, .d (.iptr (shL h (rsD rs) z)))] (r.cells.length - (k+1)) (by omega) ⟨rfl,rfl,rfl,rfl,rfl,rfl,trivial⟩ ⟨k+1,rfl,hlt2,rfl,rfl⟩
     |omega
   ·repeat' (first|refine aa.aD ?_|(apply aa.q true;rfl;rfl;rfl;rfl;first|exact True.intro|omega|(simp only[tn,Int.reduceToNat];omega)|(rw[hm];omega))|refine aa.ae ?_|refine aa.af ?_|refine aa.ai ?_|refine aa.aG ?_|refine aa.ba ?_|refine aa.aA ?_|refine aa.aj ?_|refine aa.bD ?_|refine aa.dN ?_|intro _|refine aa.av ?_|refine aa.aI ?_)
    all_goals first
     |exact aa.jk 2 [(5,I ((i+1:Nat):Int)),(3, .d (.iptr (shL h (rsD rs) z))),(2, .d (.iptr (shL h (rsD rs) z)))] (rs.length - (i+1)) (by omega) rfl rfl rfl rfl ⟨rfl,rfl,rfl,trivial⟩ ⟨i+1,rfl,hlt,rfl,rfl⟩
     |omega
  ·refine aa.weak (env':=[(8,I ((0:Nat):Int)),(7, .ptr 2 0),(6, .ptr 3 0),(5,I (i:Int)),(3, .d (.iptr (shL h (rsD rs) z))),(2, .d (.iptr (shL h (rsD rs) z)))]) ⟨rfl,rfl,rfl,rfl,rfl,rfl,trivial⟩ ?_
   refine aa.loop (fun m env H=>∃k:Nat,m=r.cells.length - k∧k≤r.cells.length∧env=[(8,I (k:Int)),(7, .ptr 2 0),(6, .ptr 3 0),(5,I (i:Int)),(3, .d (.iptr (shL h (rsD rs) z))),(2, .d (.iptr (shL h (rsD rs) z)))]∧H=[.gone, .gone, .cells (rwA r), .cells (rwA r)]) r.cells.length
    ⟨0,rfl,by omega,rfl,rfl⟩ ?_
   rintro m env H ⟨k,rfl,hk,rfl,rfl⟩
   rcases Nat.lt_or_ge k r.cells.length with hlt2|hge2
   ·obtain⟨c,hc⟩:∃c,r.cells[k]?=some c:=⟨_,List.getElem?_eq_getElem hlt2⟩
    have g2:=wV hc
    have s21:=Cs.qd (gl:=gl) c (hcb c (List.mem_of_getElem? hc))
    repeat' (first|refine aa.aD ?_|(apply aa.cg [0,1,2,3,4,5,6,7,8,9,10,11] 12 12;rfl)|(apply aO.bi;rfl;(apply fS;(iterate 7 rfl);(first|omega|(rw[hm];omega));exact g2);exact fun _ _ _ h=>h;(iterate 6 rfl);kernel_rfl;kernel_rfl)|(apply aO.bi;rfl;(apply aQ.q true;rfl;rfl;first|exact True.intro|omega|(rw[hm];omega));exact fun _ _ _ h=>h;(iterate 6 rfl);kernel_rfl;kernel_rfl)|(apply aO.load;rfl;rfl;(first|exact True.intro|omega|(rw[hm];omega));exact fun _ _ _ h=>h;(iterate 6 rfl);kernel_rfl;kernel_rfl)|(apply aO.go)|refine aC.bQ ?_|(apply aC.bi;rfl;(apply fS;(iterate 7 rfl);(first|omega|(rw[hm];omega));exact g2);exact fun _ _ _ h=>h;(iterate 6 rfl);kernel_rfl;kernel_rfl)|(apply aC.bi;rfl;(apply aQ.q true;rfl;rfl;first|exact True.intro|omega|(rw[hm];omega));exact fun _ _ _ h=>h;(iterate 6 rfl);kernel_rfl;kernel_rfl)|refine aC.aH (s21) ?_|(exact aa.cL)|(apply aa.q true;rfl;rfl;rfl;rfl;first|exact True.intro|omega|(simp only[tn,Int.reduceToNat];omega)|(rw[hm];omega))|refine aa.ah (s21) ?_|refine aa.ae ?_|refine aa.af ?_|refine aa.ai ?_|refine aa.aG ?_|refine aa.ba ?_|refine aa.aA ?_|refine aa.aj ?_|refine aa.bD ?_|refine aa.dN ?_|intro _|refine aa.av ?_|refine aa.aI ?_)
    all_goals first
     |exact aa.round [(8,I ((k+1:Nat):Int)),(7, .ptr 2 0),(6, .ptr 3 0),(5,I (i:Int)),(3, .d (.iptr (shL h (rsD rs) z))),(2, .d (.iptr (shL h (rsD rs) z)))] (r.cells.length - (k+1)) (by omega) ⟨rfl,rfl,rfl,rfl,rfl,rfl,trivial⟩ ⟨k+1,rfl,hlt2,rfl,rfl⟩
     |omega
   ·repeat' (first|refine aa.aD ?_|(apply aa.q true;rfl;rfl;rfl;rfl;first|exact True.intro|omega|(simp only[tn,Int.reduceToNat];omega)|(rw[hm];omega))|refine aa.ae ?_|refine aa.af ?_|refine aa.ai ?_|refine aa.aG ?_|refine aa.ba ?_|refine aa.aA ?_|refine aa.aj ?_|refine aa.bD ?_|refine aa.dN ?_|intro _|refine aa.av ?_|refine aa.aI ?_)
    all_goals first
     |exact aa.jk 2 [(5,I ((i+1:Nat):Int)),(3, .d (.iptr (shL h (rsD rs) z))),(2, .d (.iptr (shL h (rsD rs) z)))] (rs.length - (i+1)) (by omega) rfl rfl rfl rfl ⟨rfl,rfl,rfl,trivial⟩ ⟨i+1,rfl,hlt,rfl,rfl⟩
     |omega
 ·repeat' (first|refine aa.aD ?_|(apply aa.q true;rfl;rfl;rfl;rfl;first|exact True.intro|omega|(simp only[tn,Int.reduceToNat];omega)|(rw[hn];omega))|refine aa.ae ?_|refine aa.af ?_|refine aa.ai ?_|refine aa.aG ?_|refine aa.ba ?_|refine aa.aA ?_|refine aa.aj ?_|refine aa.bD ?_|refine aa.dN ?_|intro _|refine aa.av ?_|refine aa.aI ?_)
  all_goals first|exact⟨rfl,rfl⟩|omega
end Sh
end Go.Proofs.YtbpednchkndocaaGreatDoor.Av
namespace Go.Proofs.YtbpednchkndocaaGreatDoor.Av
namespace Si
open Go Bt Sh Co Ci Tc
attribute [local irreducible] aa ACalls aO aC bB aR bR bA bC
theorem Ca {c:Cel} (h:vM c):Cs.yP c:=by
 have h0:=h.e0.1
 have h1:=h.e1.1
 have h2:=h.e2.1
 have h3:=h.e3.1
 have h4:=h.e4.1
 have h5:=h.e5.1
 unfold Cs.yP
 omega
attribute [local irreducible] shX Tc.cn suD dZ rsD mX kR jV aS
theorem sheetinTakes_law (s:List UInt8) (q:Int) (hs:s.length≤140737488351232) (hq:I64 q) :
  ACalls (cxg gB) 3 [S s,I q] [] (fun r H=>r=B true∧H=[]):=by
 have lv:=D6
 have nw:=zQ (gl:=gB) s
 rcases Nat.lt_or_ge 2000 s.length with hlen|hlen
 ·refine ACalls.en Tryz.func3 Tryz.ntmps3 ?_
  repeat' (first|refine aa.aD ?_|refine aa.bh true ?_|refine aa.az [] ( nw) ?_|refine aa.ah (lv) ?_|refine aa.au ?_|refine aa.ai ?_|refine aa.aG ?_|refine aa.aA ?_|refine aa.aj ?_|refine aa.bL ?_|refine aa.bq ?_|refine aa.aB ?_|intro _|refine aa.av ?_)
  all_goals first|exact⟨rfl,rfl⟩|omega
 ·by_cases hr:q<0∨8*(s.length:Int)<q
  ·have sk:=FJ (gl:=gB) s 0 q (by omega) hr
   refine ACalls.en Tryz.func3 Tryz.ntmps3 ?_
   repeat' (first|refine aa.aD ?_|refine aa.bh true ?_|refine aa.az [] ( nw) ?_|refine aa.az [0] ( sk) ?_|refine aa.ah (lv) ?_|refine aa.au ?_|refine aa.ai ?_|refine aa.aG ?_|refine aa.aA ?_|refine aa.aj ?_|refine aa.bL ?_|refine aa.bq ?_|refine aa.aB ?_|intro _|refine aa.av ?_)
   all_goals first|exact⟨rfl,rfl⟩|omega
  ·obtain⟨p,rfl⟩:=Int.eq_ofNat_of_zero_le (show 0≤q by omega)
   have sk:=fG (gl:=gB) s 0 p (by omega) ⟨by omega,by omega⟩
   have tk:=zl s p (by omega) (by omega)
   have rt:=D9 (gl:=gB) s p (by omega) (by omega)
   have sh:=K5 (gl:=gB) s (by omega)
   have nl:=zk
   have so:=IR (s:=s) (p:=p) (by omega) (by omega)
   have se:=K6 (s:=s) (p:=p)
   generalize shX s p=X at *
   obtain⟨h,rs,z,e,u⟩:=X
   simp only at tk rt so se
   have a0:=qX (gl:=gB) s (u:Int)
   have sm:ACalls (cxg gB) 18 [.d (shD h (rsD rs) z), .d (shD h (rsD rs) z)] [] (fun r H=>r=B true∧H=[]):=by
    by_cases he:e=0
    ·obtain⟨o1,o2,o3,o4,o5,o6,o7,o8⟩:=so he
     have ok:=K9 o5 o7
     have hl:=LU o5
     refine qc h rs z (by have:=ok.few;omega) (fun r hr=>by have:=(ok.cells r hr).1;omega) (by omega) (fun r hr c hc=>Ca (o7 r hr c hc))
    ·obtain⟨rfl,rfl,rfl,rfl⟩:h=hd0∧rs=[]∧z=0∧u=p:=by
      have:=se he
      simp only[Prod.mk.injEq]at this
      exact⟨this.1,this.2.1,this.2.2.1,this.2.2.2.2⟩
     exact qc hd0 [] ((0:Nat):Int) (by decide) (by simp) (by decide) (by simp)
   clear so se
   refine ACalls.en Tryz.func3 Tryz.ntmps3 ?_
   repeat' (first|refine aa.aD ?_|refine aa.bh true ?_|refine aa.az [] ( nw) ?_|refine aa.az [0] ( sk) ?_|refine aa.az [0] ( tk) ?_|refine aa.az [0] ( a0) ?_|refine aa.ah (sh) ?_|refine aa.ah (rt) ?_|refine aa.ah (nl) ?_|refine aa.ah (sm) ?_|refine aa.ah (lv) ?_|refine aa.au ?_|refine aa.ai ?_|refine aa.aG ?_|refine aa.aA ?_|refine aa.aj ?_|refine aa.bL ?_|refine aa.bq ?_|refine aa.aB ?_|intro _|refine aa.av ?_)
   all_goals first|exact⟨rfl,rfl⟩|omega
end Si
end Go.Proofs.YtbpednchkndocaaGreatDoor.Av
