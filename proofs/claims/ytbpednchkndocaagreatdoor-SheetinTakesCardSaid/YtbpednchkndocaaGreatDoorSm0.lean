/- Heads of sheets, to the document, are the same as themselves. -/
import Derived.Test.YtbpednchkndocaaGreatDoorPs2
import Derived.Test.YtbpednchkndocaaGreatDoorPn4
import Derived.Test.YtbpednchkndocaaGreatDoorCo1
import Derived.Test.YtbpednchkndocaaGreatDoorPn5
set_option linter.unusedVariables false
set_option linter.unusedSimpArgs false
set_option maxRecDepth 100000
set_option maxHeartbeats 64000000
namespace Go.Proofs.YtbpednchkndocaaGreatDoor.Av
namespace Sh
open Go Bt Tc Co
attribute [local irreducible] aa ACalls
variable {gl:List (Nat×List D)}
theorem K3 (l:List Int) (k:Nat) (v:Int) (h:l[k]?=some v):(suD l).getD (k:Int).toNat .top=Nn v:=by
 simp[suD,List.getD_eq_getElem?_getD,h]
attribute [local irreducible] Tc.cn suD dZ rsD
theorem Eb (h:Hd) (rs rs2:List D) (z z2:Int) (hl:h.supp.length≤100):ACalls (cxg gl) 68 [.d (shD h rs z), .d (shD h rs2 z2)] [] (fun r H=>r=B true∧H=[]):=by
 have hsl:=tu h.supp
 have hsg:=K3 h.supp
 obtain⟨a,b,c,d,e,f⟩:=h
 simp only at hl hsl hsg
 refine ACalls.en Tryz.func68 Tryz.ntmps68 ?_
 repeat' (first|refine aa.aD ?_|refine aa.bh true ?_|refine aa.ba ?_|refine aa.aj ?_|refine aa.aK ?_|refine aa.bD ?_|refine aa.dN ?_|intro _|refine aa.av ?_|refine aa.aI ?_)
 refine aa.weak (env':=[(5,I ((0:Nat):Int)),(3, .ptr 1 0),(2, .ptr 0 0)]) ⟨rfl,rfl,rfl,trivial⟩ ?_
 refine aa.loop (fun m env H=>∃i:Nat,m=f.length - i∧i≤f.length∧env=[(5,I (i:Int)),(3, .ptr 1 0),(2, .ptr 0 0)]∧H=[.cells (shA ⟨a,b,c,d,e,f⟩ rs z), .cells (shA ⟨a,b,c,d,e,f⟩ rs2 z2)]) f.length
  ⟨0,rfl,by omega,rfl,rfl⟩ ?_
 rintro m env H ⟨i,rfl,hi,rfl,rfl⟩
 rcases Nat.lt_or_ge i f.length with hlt|hge
 ·have g1:=hsg i _ (List.getElem?_eq_getElem hlt)
  generalize f[i]=v at *
  repeat' (first|refine aa.aD ?_|(apply aa.cg [0,1,2,3,4,5,6,7,8,9,10] 11 11;rfl)|(apply aO.bi;rfl;(apply fS;(iterate 7 rfl);(first|omega|(rw[hsl];omega));exact g1);exact fun _ _ _ h=>h;(iterate 6 rfl);kernel_rfl;kernel_rfl)|(apply aO.bi;rfl;(apply aQ.q true;rfl;rfl;first|exact True.intro|omega|(rw[hsl];omega));exact fun _ _ _ h=>h;(iterate 6 rfl);kernel_rfl;kernel_rfl)|(apply aO.load;rfl;rfl;(first|exact True.intro|omega|(rw[hsl];omega));exact fun _ _ _ h=>h;(iterate 6 rfl);kernel_rfl;kernel_rfl)|(apply aO.go)|refine aC.bQ ?_|(exact aa.cL)|(apply aa.q true;rfl;rfl;rfl;rfl;first|exact True.intro|omega|(simp only[tn,Int.reduceToNat];omega)|(rw[hsl];omega))|refine aa.ba ?_|refine aa.aj ?_|refine aa.aK ?_|refine aa.bD ?_|refine aa.dN ?_|intro _|refine aa.av ?_|refine aa.aI ?_)
  all_goals first
   |exact aa.round [(5,I ((i+1:Nat):Int)),(3, .ptr 1 0),(2, .ptr 0 0)] (f.length - (i+1)) (by omega) ⟨rfl,rfl,rfl,trivial⟩ ⟨i+1,rfl,hlt,rfl,rfl⟩
   |omega
 ·repeat' (first|refine aa.aD ?_|(apply aa.q true;rfl;rfl;rfl;rfl;first|exact True.intro|omega|(simp only[tn,Int.reduceToNat];omega)|(rw[hsl];omega))|refine aa.ba ?_|refine aa.aj ?_|refine aa.aK ?_|refine aa.bD ?_|refine aa.dN ?_|intro _|refine aa.av ?_|refine aa.aI ?_)
  all_goals first|exact⟨rfl,rfl⟩|omega
end Sh
end Go.Proofs.YtbpednchkndocaaGreatDoor.Av
namespace Go.Proofs.YtbpednchkndocaaGreatDoor.Av
namespace Cs
open Go Bt Tc Co
attribute [local irreducible] aa ACalls aO aC bB aR
variable {gl:List (Nat×List D)}
def evB (a b:Ev):Bool:=(a.last==b.last)&&(decide (a.run=b.run)&&(decide (a.level=b.level)&&true))
def rQ:List Ev→List Ev→Bool
 |[],[]=>true
 |a::l,b::m=>evB a b&&rQ l m
 |_,_=>false
theorem Hq (a:Ev):evB a a=true:=by simp[evB]
theorem wP:∀l:List Ev,rQ l l=true
 |[]=>rfl
 |a::l=>by rw[rQ,Hq,wP l];rfl
theorem Ar:∀l m:List Ev,l.length≠m.length→rQ l m=false
 |[],[],h=>absurd rfl h
 |[],_::_,_=>rfl
 |_::_,[],_=>rfl
 |a::l,b::m,h=>by rw[rQ,Ar l m (by simpa using h),Bool.and_false]
theorem EC (l m:List Ev) (i:Nat) (a b:Ev) (h1:l[i]?=some a) (h2:m[i]?=some b):rQ (l.drop i) (m.drop i)=(evB a b&&rQ (l.drop (i+1)) (m.drop (i+1))):=by
 rw[nW l i a h1,nW m i b h2,rQ]
attribute [local irreducible] Tc.cn
theorem kK (l m:List Ev) (hl:l.length≤1000000000000) (hm:m.length≤1000000000000):ACalls (cxg gl) 141 [.d (evS l), .d (evS m)] [] (fun r H=>r=B (rQ l m)∧H=[]):=by
 have el:=nT l
 have em:=nT m
 by_cases hlen:l.length=m.length
 ·refine ACalls.en Tryz.func141 Tryz.ntmps141 ?_
  repeat (first|refine aa.aD ?_|((first|apply aa.q true|apply aa.qq true);rfl;rfl;rfl;rfl;first|exact True.intro|omega|(simp only[tn,Int.reduceToNat];omega)|(rw[el,em];omega))|refine aa.aV ?_|refine aa.ae ?_|refine aa.af ?_|refine aa.aK ?_|refine aa.bD ?_)
  refine aa.weak (env':=[(5,I ((0:Nat):Int)),(1, .d (evS m)),(0, .d (evS l))]) ⟨rfl,rfl,rfl,trivial⟩ ?_
  refine aa.loop (fun w env H=>∃i:Nat,w=l.length - i∧i≤l.length∧rQ (l.drop i) (m.drop i)=rQ l m∧env=[(5,I (i:Int)),(1, .d (evS m)),(0, .d (evS l))]∧H=[]) l.length
   ⟨0,rfl,by omega,rfl,rfl,rfl⟩ ?_
  rintro w env H ⟨i,rfl,hi,hd,rfl,rfl⟩
  rcases Nat.lt_or_ge i l.length with hlt|hge
  ·have h1:l[i]?=some l[i]:=List.getElem?_eq_getElem hlt
   have h2:m[i]?=some m[i]:=List.getElem?_eq_getElem (by omega)
   generalize l[i]=a at *
   generalize m[i]=b at *
   rw[EC l m i a b h1 h2]at hd
   have g1:=fun (ti:TI) (ha:ti.agg=true) (hs:ti.size=3)=>Dm ti ha hs l i a h1
   have g2:=fun (ti:TI) (ha:ti.agg=true) (hs:ti.size=3)=>Dm ti ha hs m i b h2
   obtain⟨la,ru,le⟩:=a
   obtain⟨lb,rv,lf⟩:=b
   unfold evB at hd
   simp only at hd
   cases hE:((la==lb)&&(decide (ru=rv)&&(decide (le=lf)&&true)))with
   |true =>
    rw[hE,Bool.true_and]at hd
    repeat' (first|refine aa.aD ?_|((first|apply aa.q true|apply aa.qq true);rfl;rfl;rfl;rfl;first|exact True.intro|omega|(simp only[tn,Int.reduceToNat];omega)|(rw[el];omega)|(rw[em];omega))|refine aa.aV ?_|refine aa.ae ?_|refine aa.af ?_|(apply aa.cBT;rfl;first|(simp only[bT];omega)|(rw[hE];rfl))|(apply aa.cBF;rfl;first|(simp only[bF];omega)|exact ndF rfl|(rw[hE];rfl))|(apply aa.tG;(iterate 6 rfl);exact g1 _ rfl rfl)|(apply aa.tG;(iterate 6 rfl);exact g2 _ rfl rfl)|(apply aa.Ga;((apply qi;(iterate 6 rfl);kernel_rfl));rfl;rfl;rfl)|intro _|refine aa.av ?_|refine aa.aP ?_|refine aa.aI ?_)
    all_goals first
     |exact aa.round [(5,I ((i+1:Nat):Int)),(1, .d (evS m)),(0, .d (evS l))] (l.length - (i+1)) (by omega) ⟨rfl,rfl,rfl,trivial⟩ ⟨i+1,rfl,hlt,hd,rfl,rfl⟩
     |omega
   |false =>
    rw[hE,Bool.false_and]at hd
    rw[←hd]
    repeat' (first|refine aa.aD ?_|((first|apply aa.q true|apply aa.qq true);rfl;rfl;rfl;rfl;first|exact True.intro|omega|(simp only[tn,Int.reduceToNat];omega)|(rw[el];omega)|(rw[em];omega))|refine aa.aV ?_|refine aa.ae ?_|refine aa.af ?_|(apply aa.cBT;rfl;first|(simp only[bT];omega)|(rw[hE];rfl))|(apply aa.cBF;rfl;first|(simp only[bF];omega)|exact ndF rfl|(rw[hE];rfl))|(apply aa.tG;(iterate 6 rfl);exact g1 _ rfl rfl)|(apply aa.tG;(iterate 6 rfl);exact g2 _ rfl rfl)|(apply aa.Ga;((apply qi;(iterate 6 rfl);kernel_rfl));rfl;rfl;rfl)|intro _|refine aa.av ?_|refine aa.aP ?_|refine aa.aI ?_)
    all_goals first|exact⟨rfl,rfl⟩|omega
  ·obtain rfl:i=l.length:=by omega
   have ht:rQ l m=true:=by rw[←hd,List.drop_length,hlen,List.drop_length];rfl
   rw[ht]
   repeat' (first|refine aa.aD ?_|((first|apply aa.q true|apply aa.qq true);rfl;rfl;rfl;rfl;first|exact True.intro|omega|(simp only[tn,Int.reduceToNat];omega)|(rw[el];omega))|refine aa.aV ?_|refine aa.ae ?_|refine aa.af ?_|refine aa.aK ?_|refine aa.bD ?_|intro _|refine aa.av ?_|refine aa.aP ?_|refine aa.aI ?_)
   all_goals first|exact⟨rfl,rfl⟩|omega
 ·rw[Ar l m hlen]
  refine ACalls.en Tryz.func141 Tryz.ntmps141 ?_
  repeat' (first|refine aa.aD ?_|((first|apply aa.q true|apply aa.qq true);rfl;rfl;rfl;rfl;first|exact True.intro|omega|(simp only[tn,Int.reduceToNat];omega)|(rw[el,em];omega))|refine aa.aV ?_|refine aa.ae ?_|refine aa.af ?_|refine aa.aK ?_|refine aa.bD ?_|intro _|refine aa.av ?_|refine aa.aP ?_|refine aa.aI ?_)
  all_goals first|exact⟨rfl,rfl⟩|omega
end Cs
namespace Cs
open Go Bt Tc Co
attribute [local irreducible] aa ACalls aO aC bB aR
variable {gl:List (Nat×List D)}
def yP (c:Cel):Prop:=c.e0.length≤1000000000000∧c.e1.length≤1000000000000∧c.e2.length≤1000000000000∧c.e3.length≤1000000000000∧c.e4.length≤1000000000000∧c.e5.length≤1000000000000
attribute [local irreducible] Tc.cn rQ
theorem qd (c:Cel) (h:yP c):ACalls (cxg gl) 69 [.d (gz c), .d (gz c)] [] (fun r H=>r=B true∧H=[]):=by
 obtain⟨st,sk,ki,sp,mx,my,d0,d1,d2,d3,d4,d5,e0,e1,e2,e3,e4,e5⟩:=c
 obtain⟨i0,i1,i2,i3,i4,i5⟩:=h
 simp only at i0 i1 i2 i3 i4 i5
 have q0:=kK (gl:=gl) e0 e0 i0 i0
 have q1:=kK (gl:=gl) e1 e1 i1 i1
 have q2:=kK (gl:=gl) e2 e2 i2 i2
 have q3:=kK (gl:=gl) e3 e3 i3 i3
 have q4:=kK (gl:=gl) e4 e4 i4 i4
 have q5:=kK (gl:=gl) e5 e5 i5 i5
 rw[wP]at q0 q1 q2 q3 q4 q5
 refine ACalls.en Tryz.func69 Tryz.ntmps69 ?_
 repeat' (first|refine aa.aD ?_|(apply aa.cg [0,1,2,3,4,5,6,7,8,9] 10 10;rfl)|(apply aO.bi;rfl;(apply aQ.q true;rfl;rfl;first|exact True.intro|omega);exact fun _ _ _ h=>h;(iterate 6 rfl);kernel_rfl;kernel_rfl)|refine aO.cf ?_|(apply aO.go)|refine aC.bQ ?_|(apply aC.bi;rfl;(apply aQ.q true;rfl;rfl;first|exact True.intro|omega);exact fun _ _ _ h=>h;(iterate 6 rfl);kernel_rfl;kernel_rfl)|refine aC.aH (q0) ?_|refine aC.aH (q1) ?_|refine aC.aH (q2) ?_|refine aC.aH (q3) ?_|refine aC.aH (q4) ?_|refine aC.aH (q5) ?_|(exact aa.cL)|refine aa.bh true ?_|refine aa.aW ?_|refine aa.ae ?_|refine aa.af ?_|refine aa.ai ?_|refine aa.ba ?_|refine aa.aj ?_|(apply aa.cBF;rfl;first|(simp only[bF];omega)|exact ndF rfl|((simp;done)))|(apply aa.gBF;rfl;rfl;rfl;first|(simp only[bF];omega)|exact ndF rfl|((simp;done)))|(apply aa.opx;(apply xE;(iterate 12 rfl));rfl;rfl;rfl)|apply aa.cK|apply aa.lpU|intro _|refine aa.av ?_)
 all_goals first|exact⟨rfl,rfl⟩|omega|(exfalso;simp_all;done)
end Cs
end Go.Proofs.YtbpednchkndocaaGreatDoor.Av
