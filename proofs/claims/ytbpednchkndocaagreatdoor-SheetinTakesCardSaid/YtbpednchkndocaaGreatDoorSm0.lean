/- Heads of sheets, to the document, are the same as themselves. -/
import Derived.Test.YtbpednchkndocaaGreatDoorPs2
import Derived.Test.YtbpednchkndocaaGreatDoorPn4
import Derived.Test.YtbpednchkndocaaGreatDoorCo1
import Derived.Test.YtbpednchkndocaaGreatDoorPn5
set_option linter.unusedVariables false
set_option linter.unusedSimpArgs false
set_option maxRecDepth 100000
set_option maxHeartbeats 64000000
namespace Go.Proofs.YtbpednchkndocaaGreatDoor.Av
namespace Sh
open Go Bt Tc Co
attribute [local irreducible] aa ACalls
variable {gl:List (Nat×List D)}
theorem KY (l:List Int) (k:Nat) (v:Int) (h:l[k]?=some v):(suD l).getD (k:Int).toNat .top=Nn v:=by
 simp[suD,List.getD_eq_getElem?_getD,h]
attribute [local irreducible] Tc.bB suD dw rsD
theorem DL (h:Hd) (rs rs2:List D) (z z2:Int) (hl:h.supp.length≤100):ACalls (cxg gl) 68 [.d (shD h rs z), .d (shD h rs2 z2)] [] (fun r H=>r=B true∧H=[]):=by
 have hsl:=rX h.supp
 have hsg:=KY h.supp
 obtain⟨a,b,c,d,e,f⟩:=h
 simp only at hl hsl hsg
 refine ACalls.en Tryz.func68 Tryz.ntmps68 ?_
 repeat' (first|intro _|refine aa.aR ?_)
 refine aa.weak (env':=[(5,I ((0:Nat):Int)),(3, .ptr 1 0),(2, .ptr 0 0)]) ⟨rfl,rfl,rfl,trivial⟩ ?_
 refine aa.loop (fun m env H=>∃i:Nat,m=f.length - i∧i≤f.length∧env=[(5,I (i:Int)),(3, .ptr 1 0),(2, .ptr 0 0)]∧H=[.cells (shA ⟨a,b,c,d,e,f⟩ rs z), .cells (shA ⟨a,b,c,d,e,f⟩ rs2 z2)]) f.length
  ⟨0,rfl,by omega,rfl,rfl⟩ ?_
 rintro m env H ⟨i,rfl,hi,rfl,rfl⟩
 rcases Nat.lt_or_ge i f.length with hlt|hge
 ·have g1:=hsg i _ (List.getElem?_eq_getElem hlt)
  generalize f[i]=v at *
  repeat' (first|(apply aa.bE [0,1,2,3,4,5,6,7,8,9,10] 11 11;rfl)|(apply av.aK;rfl;(apply eM;(iterate 7 rfl);(first|omega|(rw[hsl];omega));exact g1);exact fun _ _ _ h=>h;(iterate 6 rfl);kernel_rfl;kernel_rfl)|(apply av.aK;rfl;(apply aA.q true;rfl;rfl;first|exact True.intro|omega|(rw[hsl];omega));exact fun _ _ _ h=>h;(iterate 6 rfl);kernel_rfl;kernel_rfl)|(apply av.load;rfl;rfl;(first|exact True.intro|omega|(rw[hsl];omega));exact fun _ _ _ h=>h;(iterate 6 rfl);kernel_rfl;kernel_rfl)|(apply av.go)|refine ai.bg ?_|(exact aa.bP)|(apply aa.q true;rfl;rfl;rfl;rfl;first|exact True.intro|omega|(simp only[tn,Int.reduceToNat];omega)|(rw[hsl];omega))|intro _|refine aa.aR ?_)
  all_goals first
   |exact aa.round [(5,I ((i+1:Nat):Int)),(3, .ptr 1 0),(2, .ptr 0 0)] (f.length - (i+1)) (by omega) ⟨rfl,rfl,rfl,trivial⟩ ⟨i+1,rfl,hlt,rfl,rfl⟩
   |omega
 ·repeat' (first|(apply aa.q true;rfl;rfl;rfl;rfl;first|exact True.intro|omega|(simp only[tn,Int.reduceToNat];omega)|(rw[hsl];omega))|intro _|refine aa.aR ?_)
  all_goals first|exact⟨rfl,rfl⟩|omega
end Sh
end Go.Proofs.YtbpednchkndocaaGreatDoor.Av
namespace Go.Proofs.YtbpednchkndocaaGreatDoor.Av
namespace Cs
open Go Bt Tc Co
attribute [local irreducible] aa ACalls av ai aN aB
variable {gl:List (Nat×List D)}
def evB (a b:Ev):Bool:=(a.last==b.last)&&(decide (a.run=b.run)&&(decide (a.level=b.level)&&true))
def oI:List Ev→List Ev→Bool
 |[],[]=>true
 |a::l,b::m=>evB a b&&oI l m
 |_,_=>false
theorem He (a:Ev):evB a a=true:=by simp[evB]
theorem vX:∀l:List Ev,oI l l=true
 |[]=>rfl
 |a::l=>by rw[oI,He,vX l];rfl
theorem zS:∀l m:List Ev,l.length≠m.length→oI l m=false
 |[],[],h=>absurd rfl h
 |[],_::_,_=>rfl
 |_::_,[],_=>rfl
 |a::l,b::m,h=>by rw[oI,zS l m (by simpa using h),Bool.and_false]
theorem Ek (l m:List Ev) (i:Nat) (a b:Ev) (h1:l[i]?=some a) (h2:m[i]?=some b):oI (l.drop i) (m.drop i)=(evB a b&&oI (l.drop (i+1)) (m.drop (i+1))):=by
 rw[mU l i a h1,mU m i b h2,oI]
attribute [local irreducible] Tc.bB
theorem jQ (l m:List Ev) (hl:l.length≤1000000000000) (hm:m.length≤1000000000000):ACalls (cxg gl) 141 [.d (evS l), .d (evS m)] [] (fun r H=>r=B (oI l m)∧H=[]):=by
 have el:=mQ l
 have em:=mQ m
 by_cases hlen:l.length=m.length
 ·refine ACalls.en Tryz.func141 Tryz.ntmps141 ?_
  repeat (first|((first|apply aa.q true|apply aa.qq true);rfl;rfl;rfl;rfl;first|exact True.intro|omega|(simp only[tn,Int.reduceToNat];omega)|(rw[el,em];omega))|refine aa.iR ?_)
  refine aa.weak (env':=[(5,I ((0:Nat):Int)),(1, .d (evS m)),(0, .d (evS l))]) ⟨rfl,rfl,rfl,trivial⟩ ?_
  refine aa.loop (fun w env H=>∃i:Nat,w=l.length - i∧i≤l.length∧oI (l.drop i) (m.drop i)=oI l m∧env=[(5,I (i:Int)),(1, .d (evS m)),(0, .d (evS l))]∧H=[]) l.length
   ⟨0,rfl,by omega,rfl,rfl,rfl⟩ ?_
  rintro w env H ⟨i,rfl,hi,hd,rfl,rfl⟩
  rcases Nat.lt_or_ge i l.length with hlt|hge
  ·have h1:l[i]?=some l[i]:=List.getElem?_eq_getElem hlt
   have h2:m[i]?=some m[i]:=List.getElem?_eq_getElem (by omega)
   generalize l[i]=a at *
   generalize m[i]=b at *
   rw[Ek l m i a b h1 h2]at hd
   have g1:=fun (ti:TI) (ha:ti.agg=true) (hs:ti.size=3)=>CQ ti ha hs l i a h1
   have g2:=fun (ti:TI) (ha:ti.agg=true) (hs:ti.size=3)=>CQ ti ha hs m i b h2
   obtain⟨la,ru,le⟩:=a
   obtain⟨lb,rv,lf⟩:=b
   unfold evB at hd
   simp only at hd
   cases hE:((la==lb)&&(decide (ru=rv)&&(decide (le=lf)&&true)))with
   |true =>
    rw[hE,Bool.true_and]at hd
    repeat' (first|((first|apply aa.q true|apply aa.qq true);rfl;rfl;rfl;rfl;first|exact True.intro|omega|(simp only[tn,Int.reduceToNat];omega)|(rw[el];omega)|(rw[em];omega))|(apply aa.cBT;rfl;first|(simp only[bT];omega)|(rw[hE];rfl))|(apply aa.cBF;rfl;first|(simp only[bF];omega)|exact ndF rfl|(rw[hE];rfl))|(apply aa.sx;(iterate 6 rfl);exact g1 _ rfl rfl)|(apply aa.sx;(iterate 6 rfl);exact g2 _ rfl rfl)|(apply aa.FU;((apply pq;(iterate 6 rfl);kernel_rfl));rfl;rfl;rfl)|intro _|refine aa.aR ?_)
    all_goals first
     |exact aa.round [(5,I ((i+1:Nat):Int)),(1, .d (evS m)),(0, .d (evS l))] (l.length - (i+1)) (by omega) ⟨rfl,rfl,rfl,trivial⟩ ⟨i+1,rfl,hlt,hd,rfl,rfl⟩
     |omega
   |false =>
    rw[hE,Bool.false_and]at hd
    rw[←hd]
    repeat' (first|((first|apply aa.q true|apply aa.qq true);rfl;rfl;rfl;rfl;first|exact True.intro|omega|(simp only[tn,Int.reduceToNat];omega)|(rw[el];omega)|(rw[em];omega))|(apply aa.cBT;rfl;first|(simp only[bT];omega)|(rw[hE];rfl))|(apply aa.cBF;rfl;first|(simp only[bF];omega)|exact ndF rfl|(rw[hE];rfl))|(apply aa.sx;(iterate 6 rfl);exact g1 _ rfl rfl)|(apply aa.sx;(iterate 6 rfl);exact g2 _ rfl rfl)|(apply aa.FU;((apply pq;(iterate 6 rfl);kernel_rfl));rfl;rfl;rfl)|intro _|refine aa.aR ?_)
    all_goals first|exact⟨rfl,rfl⟩|omega
  ·obtain rfl:i=l.length:=by omega
   have ht:oI l m=true:=by rw[←hd,List.drop_length,hlen,List.drop_length];rfl
   rw[ht]
   repeat' (first|((first|apply aa.q true|apply aa.qq true);rfl;rfl;rfl;rfl;first|exact True.intro|omega|(simp only[tn,Int.reduceToNat];omega)|(rw[el];omega))|intro _|refine aa.aR ?_)
   all_goals first|exact⟨rfl,rfl⟩|omega
 ·rw[zS l m hlen]
  refine ACalls.en Tryz.func141 Tryz.ntmps141 ?_
  repeat' (first|((first|apply aa.q true|apply aa.qq true);rfl;rfl;rfl;rfl;first|exact True.intro|omega|(simp only[tn,Int.reduceToNat];omega)|(rw[el,em];omega))|intro _|refine aa.aR ?_)
  all_goals first|exact⟨rfl,rfl⟩|omega
end Cs
namespace Cs
open Go Bt Tc Co
attribute [local irreducible] aa ACalls av ai aN aB
variable {gl:List (Nat×List D)}
def yl (c:Cel):Prop:=c.e0.length≤1000000000000∧c.e1.length≤1000000000000∧c.e2.length≤1000000000000∧c.e3.length≤1000000000000∧c.e4.length≤1000000000000∧c.e5.length≤1000000000000
attribute [local irreducible] Tc.bB oI
theorem oW (c:Cel) (h:yl c):ACalls (cxg gl) 69 [.d (fw c), .d (fw c)] [] (fun r H=>r=B true∧H=[]):=by
 obtain⟨st,sk,ki,sp,mx,my,d0,d1,d2,d3,d4,d5,e0,e1,e2,e3,e4,e5⟩:=c
 obtain⟨i0,i1,i2,i3,i4,i5⟩:=h
 simp only at i0 i1 i2 i3 i4 i5
 have q0:=jQ (gl:=gl) e0 e0 i0 i0
 have q1:=jQ (gl:=gl) e1 e1 i1 i1
 have q2:=jQ (gl:=gl) e2 e2 i2 i2
 have q3:=jQ (gl:=gl) e3 e3 i3 i3
 have q4:=jQ (gl:=gl) e4 e4 i4 i4
 have q5:=jQ (gl:=gl) e5 e5 i5 i5
 rw[vX]at q0 q1 q2 q3 q4 q5
 refine ACalls.en Tryz.func69 Tryz.ntmps69 ?_
 repeat' (first|(apply aa.bE [0,1,2,3,4,5,6,7,8,9] 10 10;rfl)|(apply av.aK;rfl;(apply aA.q true;rfl;rfl;first|exact True.intro|omega);exact fun _ _ _ h=>h;(iterate 6 rfl);kernel_rfl;kernel_rfl)|refine av.bD ?_|(apply av.go)|refine ai.bg ?_|(apply ai.aK;rfl;(apply aA.q true;rfl;rfl;first|exact True.intro|omega);exact fun _ _ _ h=>h;(iterate 6 rfl);kernel_rfl;kernel_rfl)|refine ai.aj (q0) ?_|refine ai.aj (q1) ?_|refine ai.aj (q2) ?_|refine ai.aj (q3) ?_|refine ai.aj (q4) ?_|refine ai.aj (q5) ?_|(exact aa.bP)|refine aa.bN true ?_|(apply aa.cBF;rfl;first|(simp only[bF];omega)|exact ndF rfl|((simp;done)))|(apply aa.gBF;rfl;rfl;rfl;first|(simp only[bF];omega)|exact ndF rfl|((simp;done)))|(apply aa.opx;(apply wY;(iterate 12 rfl));rfl;rfl;rfl)|apply aa.bO|apply aa.lpU|intro _|refine aa.bA ?_)
 all_goals first|exact⟨rfl,rfl⟩|omega|(exfalso;simp_all;done)
end Cs
end Go.Proofs.YtbpednchkndocaaGreatDoor.Av
