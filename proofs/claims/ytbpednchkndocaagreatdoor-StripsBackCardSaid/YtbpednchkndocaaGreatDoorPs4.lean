/- Cells' digits are few. A sheet's next cell is written: sheetout.Put$1. A sheet's digits. A sheet is written: sheetout.Put. -/
import Derived.Test.YtbpednchkndocaaGreatDoorPy10
import Derived.Test.YtbpednchkndocaaGreatDoorSh17
set_option linter.unusedVariables false
set_option linter.unusedSimpArgs false
set_option maxRecDepth 100000
set_option maxHeartbeats 64000000
namespace Go.Proofs.YtbpednchkndocaaGreatDoor.Av
namespace Co
open Go Bt Tc Wr Bl
attribute [local irreducible] aa ACalls
variable {gl:List (Nat×List D)}
theorem iL.nil(n:Nat):iL [] n:=⟨rfl,by simp⟩
theorem IV(c:Cel):iL (stR c) 2:=by
 unfold stR;split
 ·exact sw _
 ·exact iL.nil _
theorem Cx(c:Cel)(m p:Int):iL (mvR c m p) 13:=by
 unfold mvR;split
 ·exact iL.nil _
 ·exact jl _
theorem Js{w:List UInt8}{n:Nat}{b:Bool}{px py:Int}{c:Cel}(hw:iL w n)(h:dK b c=true):iL (putRow w b px py c) (n+13000):=by
 obtain⟨hs,hcase⟩:=qG h;have hh:c.skip=true∨gL b c=true:=by rcases hcase with h1|h1;exact .inl h1;exact .inr h1.2.1
 have f0:=hw.app (ze hs hh);have hcd:=kS c;unfold putRow;rcases hcase with hk|⟨hk,hm,hst,hv,hbl⟩
 ·rw[if_pos hk];exact⟨f0.1,by have:=f0.2;omega⟩
 ·rw[if_neg (by rw[hk];decide)];unfold mW at hbl;simp only[Bool.and_eq_true]at hbl;obtain⟨⟨⟨⟨⟨b0,b1⟩,b2⟩,b3⟩,b4⟩,b5⟩:=hbl;have f:=((((((((((f0.app (Bf (aL c.kind) (cN c/2^2) (by omega))).app (IV c)).app (Cx c c.mx px)).app (Cx c c.my py)).app (dP b0)).app (dP b1)).app (dP b2)).app (dP b3)).app (dP b4)).app (dP b5));exact⟨f.1,by have:=f.2;omega⟩
end Co
namespace Sh
open Go Bt Co Wr
attribute [local irreducible] aa ACalls
variable {gl:List (Nat×List D)}
def fZ(b:Bool)(A F:Int)(vs:List (Int×Int))(c:Cel):List UInt8:=putRow [] b (ofV vs A F).1 (ofV vs A F).2 c
abbrev PO(w:List UInt8)(h:Hd)(rs:List Rw)(z:Int)(vs:List (Int×Int))(A F:Int):List aN :=
 WO w++[.cells [.ptr 0 0], .cells (shA h (rsD rs) z), .cells [I A], .cells [.own 2 (vD vs) 7], .cells [I F], .front 91 2 (vD vs).length]
attribute [local irreducible] Tc.bS suD bD rsD dK bI bJ dC putRow ofV vD
theorem PI(w:List UInt8)(h:Hd)(rs:List Rw)(z:Int)(vs:List (Int×Int))(A F:Int)(c:Cel)(ok:kG c)(hr:dK h.inter c=true)(hw:iL w 10000000)(hA:1≤A∧A≤1000000)(hl:vs.length≤1000000)(hv:mZ vs):
  ACalls (cxg gA) 80 [.d (kU c), .ptr 2 0, .ptr 3 0, .ptr 5 0, .ptr 4 0, .ptr 6 0] (PO w h rs z vs A F)
   (fun r H=>r = .cH []∧H=PO (w++fZ h.inter A F vs c) h rs z (vs++[mvP c]) A F):=by
 obtain⟨i1,i2⟩:=hv.of A F;have oc:=RH (gl:=gA) vs A F hA hl;have cp:=QA w h.inter (ofV vs A F).1 (ofV vs A F).2 c ok i1 i2 hr hw;rw[MM]at cp;have hvl:=zN vs;unfold fZ;unfold PO;rw[Io];refine ACalls.en Tryz.func80 Tryz.ntmps80 ?_;repeat' (first|refine aa.aF ?_|(apply aa.fw [0,1,2,3,4,5,6,7,8] 9 8;rfl)|(apply aW.jA;rfl;(apply eZ.q true;rfl;rfl;first|exact True.intro|omega|(rw[hvl];omega));exact fun _ _ _ h=>h;(iterate 6 rfl);kernel_rfl;kernel_rfl)|(apply aW.load;rfl;rfl;(first|exact True.intro|omega|(rw[hvl];omega));exact fun _ _ _ h=>h;(iterate 6 rfl);kernel_rfl;kernel_rfl)|(apply aW.go)|refine aK.cL ?_|refine aK.bO (oc) ?_|refine aK.gH ?_|(apply aK.back)|(exact aa.fg)|refine aa.xW ?_|(apply aa.q true;rfl;rfl;rfl;rfl;first|exact True.intro|omega|(simp only[tn,Int.reduceToNat];omega)|(rw[hvl];omega))|refine aa.aj [0,1] (cp) ?_|refine aa.aM ?_|refine aa.aD ?_|refine aa.aX ?_|refine aa.lL ?_|intro _)
 all_goals exact Tn
end Sh
namespace Sh
open Go Bt Co Wr
def mvs(l:List Cel):List (Int×Int):=l.map mvP
theorem vQ(l m:List Cel):mvs (l++m)=mvs l++mvs m:=by simp[mvs]
theorem vP(l:List Cel):(mvs l).length=l.length:=by simp[mvs]
def cz(b:Bool)(A F:Int):List (Int×Int)→List Cel→List UInt8
 |_,[]=>[]
 |vs,c::r=>fZ b A F vs c++cz b A F (vs++[mvP c]) r
theorem oQ(b:Bool)(A F:Int):∀(l m:List Cel) (vs:List (Int×Int)),cz b A F vs (l++m)=cz b A F vs l++cz b A F (vs++mvs l) m
 |[],m,vs=>by simp[cz,mvs]
 |c::l,m,vs=>by
  have ih:=oQ b A F l m (vs++[mvP c]);simp only[List.cons_append,cz,ih,List.append_assoc];simp[mvs]
theorem yp(b:Bool)(A F:Int)(vs:List (Int×Int)){l:List Cel}{k:Nat}{c:Cel}(h:l[k]?=some c):cz b A F vs (l.take (k+1))=cz b A F vs (l.take k)++fZ b A F (vs++mvs (l.take k)) c:=by
 rw[pK h,oQ];simp[cz]
theorem JI{l:List Cel}{k:Nat}{c:Cel}(h:l[k]?=some c):mvs (l.take (k+1))=mvs (l.take k)++[mvP c]:=by
 rw[pK h,vQ];rfl
def dW(L:Int)(rs:List Rw):Nat→Int
 |0=>0
 |i+1=>match rs[i]? with|some r=>if r.head=true then i*L else dW L rs i|none=>dW L rs i
def dL(n:Nat)(i:Nat)(r:Rw)(out:List UInt8):List UInt8:=if r.head=true then out++(zs (bE (n+out.length))++nO i r.id r.quant) else out
def dG(h:Hd)(rs:List Rw)(n:Nat):Nat→List UInt8
 |0=>zs (bE n)++bY h
 |i+1=>match rs[i]? with|some r=>dL n i r (dG h rs n i)++cz h.inter (fA h.fmt) (dW (fL h.fmt) rs (i+1)) (mvs (cellsOf (rs.take i))) r.cells|none=>dG h rs n i
theorem qi{L:Int}{rs:List Rw}{i:Nat}{r:Rw}(h:rs[i]?=some r):dW L rs (i+1)=if r.head=true then i*L else dW L rs i:=by simp only[dW,h]
theorem kN{h:Hd}{rs:List Rw}{n i:Nat}{r:Rw}(hr:rs[i]?=some r):dG h rs n (i+1)=dL n i r (dG h rs n i)++cz h.inter (fA h.fmt) (dW (fL h.fmt) rs (i+1)) (mvs (cellsOf (rs.take i))) r.cells:=by simp only[dG,hr]
def aS(h:Hd)(rs:List Rw)(z:Int)(n:Nat):List UInt8:=dG h rs n rs.length++zs (bE (n+(dG h rs n rs.length).length))++zs (8*z.toNat)
theorem O3(a b:Nat):zs a++zs b=zs (a+b):=by unfold zs;exact List.replicate_append_replicate
theorem jI(n:Nat):iL (zs n) n:=⟨by unfold zs;rw[List.all_replicate];cases n<;>simp<;>decide,by unfold zs;simp⟩
theorem vO(w:List UInt8):dC w=w++zs (bE w.length):=rfl
theorem kx(n:Nat):bE n≤7:=by have:=jK n;omega
theorem zh{L:Int}{rs:List Rw}(hL:0≤L∧L≤4):∀i,i≤1000→0≤dW L rs i∧dW L rs i≤4000
 |0,_=>by simp[dW]
 | i + 1, hi => by
  have ih:=zh (rs:=rs) hL i (by omega);unfold dW;split
  ·split
   ·have h1:(0:Int)≤(i:Int)*L:=Int.mul_nonneg (by omega) hL.1;have h2:(i:Int)*L≤1000*4:=Int.mul_le_mul (by omega) hL.2 hL.1 (by omega);omega
   ·exact ih
  ·exact ih
theorem Bd{b:Bool}{A F:Int}{vs:List (Int×Int)}{c:Cel}(h:dK b c=true):iL (fZ b A F vs c) 13000:=by
 have:=Js (px:=(ofV vs A F).1) (py:=(ofV vs A F).2) (iL.nil 0) h;unfold fZ;exact⟨this.1,by have:=this.2;omega⟩
theorem nD{b:Bool}{A F:Int}:∀(l:List Cel) (vs:List (Int×Int)),(∀c∈l,dK b c=true)→iL (cz b A F vs l) (13000*l.length)
 |[],vs,_=>⟨rfl,by simp[cz]⟩
 |c::l,vs,h=>by
  have h1:=Bd (A:=A) (F:=F) (vs:=vs) (h c List.mem_cons_self);have h2:=nD (A:=A) (F:=F) l (vs++[mvP c]) fun x hx=>h x (List.mem_cons_of_mem _ hx)
  have:=h1.app h2;exact⟨this.1,by have:=this.2;rw[List.length_cons];simp only[cz];omega⟩
theorem DY(i id q:Int):iL (nO i id q) 29:=by
 unfold nO;refine⟨?_,?_⟩
 ·rw[List.all_append,List.all_append,Aw,jH,jH];rfl
 ·rw[List.length_append,List.length_append,lJ,bV,bV];omega
theorem tJ{n i:Nat}{r:Rw}{out:List UInt8}{m:Nat}(h:iL out m):iL (dL n i r out) (m+36):=by
 unfold dL;split
 ·have h1:=h.app ((jI (bE (n+out.length))).app (DY i r.id r.quant));have h2:=kx (n+out.length);exact⟨h1.1,by have:=h1.2;omega⟩
 ·exact⟨h.1,by have:=h.2;omega⟩
theorem AL{h:Hd}(hh:nu h=true):iL (Sh.bY h) 130:=by
 obtain⟨⟨f0,f1,f2,f3,f4⟩,fs⟩:=nV hh;have h1:=((Sa h).app (KE h.supp)).app (gM 0 1);exact⟨h1.1,by have:=h1.2;unfold Sh.bY;omega⟩
theorem rI{h:Hd}{i:Nat}{r:Rw}(hr:pR h i r=true):∀c∈r.cells,dK h.inter c=true:=by
 unfold pR at hr;simp only[Bool.and_eq_true]at hr;exact List.all_eq_true.1 hr.2
theorem Jh{h:Hd}{i:Nat}{r:Rw}(hr:pR h i r=true)(hd:r.head=true):i≠0∧(0≤r.id∧r.id≤3)∧(1≤r.quant∧r.quant≤31):=by
 unfold pR at hr;simp only[Bool.and_eq_true]at hr;have:=hr.1.2;unfold ym at this;rw[if_pos hd]at this;exact of_decide_eq_true this
theorem pQ{h:Hd}{rs:List Rw}:∀{n i:Nat} {r:Rw},gJ h rs n=true→i<n→rs[i]?=some r→pR h i r=true
 | n + 1, i, r, hh, hi, hr => by
  rw[gJ,Bool.and_eq_true]at hh;by_cases he:i=n
  ·subst he;have:=hh.2;rw[hr]at this;exact this
  ·exact pQ hh.1 (by omega) hr
theorem lU{h:Hd}{rs:List Rw}{n:Nat}(hh:nu h=true)(ha:gJ h rs rs.length=true):∀i,i≤rs.length→iL (dG h rs n i) (137+36*i+13000*(cellsOf (rs.take i)).length)
 |0,_=>by
  have h1:=(jI (bE n)).app (AL hh);have h2:=kx n;exact⟨h1.1,by have:=h1.2;simp only[dG];omega⟩
 |i+1,hi=>by
  obtain⟨r,hr⟩:∃r,rs[i]?=some r:=⟨_,List.getElem?_eq_getElem (by omega)⟩;have ih:=lU (n:=n) hh ha i (by omega);have hrow:=pQ ha (by omega) hr;have h1:=(tJ (n:=n) (i:=i) (r:=r) ih).app (nD (A:=fA h.fmt) (F:=dW (fL h.fmt) rs (i+1)) r.cells (mvs (cellsOf (rs.take i))) (rI hrow));rw[kN hr,iz hr];have e:(cellsOf (rs.take i)++r.cells).length=(cellsOf (rs.take i)).length+r.cells.length:=List.length_append;exact⟨h1.1,by have:=h1.2;omega⟩
theorem Sd(f:Int):0≤fL f∧fL f≤4:=by unfold fL;split<;>(try split)<;>(try split)<;>(try split)<;>(try split)<;>(try split)<;>decide
end Sh
namespace Sh
open Go Bt Co Wr
attribute [local irreducible] aa ACalls
variable {gl:List (Nat×List D)}
theorem RL{rs:List Rw}(ok:jX rs)(i:Nat):∀c∈cellsOf (rs.take i),kG c:=fun c hc=>by
 unfold cellsOf at hc;obtain⟨r,hr,hcr⟩:=List.mem_flatMap.1 hc;exact (ok.cells r (List.mem_of_mem_take hr)).2 c hcr
theorem Im{l:List Cel}(h:∀c∈l,kG c):mZ (mvs l):=fun p hp=>by
 unfold mvs at hp;obtain⟨c,hc,rfl⟩:=List.mem_map.1 hp;exact⟨(h c hc).x,(h c hc).y⟩
abbrev yI:AV := .fn (.func 80) [] [.ptr 2 0, .ptr 3 0, .ptr 5 0, .ptr 4 0, .ptr 6 0]
theorem Sq:bU 0 8 8=zs 8:=by decide +kernel
theorem Hw{n i:Nat}{r:Rw}{w out:List UInt8}(hn:w.length=n)(hd:r.head=true):dC (w++out)++nO i r.id r.quant=w++dL n i r out:=by
 unfold dL;rw[if_pos hd,vO,List.length_append,hn];simp only[List.append_assoc]
theorem Km{n i:Nat}{r:Rw}{out:List UInt8}(hd:r.head=false):dL n i r out=out:=by
 unfold dL;rw[if_neg (by rw[hd];decide)]
theorem Td(w:List UInt8)(h:Hd)(n:Nat)(hn:w.length=n):dC w++Sh.bY h=w++(zs (bE n)++Sh.bY h):=by
 rw[vO,hn,List.append_assoc]
theorem Cm(h:Hd)(rs:List Rw)(n i:Nat):∀k,∃t,dG h rs n (i+k)=dG h rs n i++t
 |0=>⟨[],by simp⟩
 | k + 1 => by
  obtain⟨t,ht⟩:=Cm h rs n i k;rw[←Nat.add_assoc];show ∃t,(match rs[i+k]? with|some r=>dL n (i+k) r (dG h rs n (i+k))++cz h.inter (fA h.fmt) (dW (fL h.fmt) rs (i+k+1)) (mvs (cellsOf (rs.take (i+k)))) r.cells|none=>dG h rs n (i+k))=_;split
  ·rw[ht];unfold dL;split
   ·exact⟨_,by simp only[List.append_assoc];rfl⟩
   ·exact⟨_,by simp only[List.append_assoc];rfl⟩
  ·exact⟨t,ht⟩
theorem MU(h:Hd)(rs:List Rw)(n i:Nat)(hi:i≤rs.length):(dG h rs n i).length≤(dG h rs n rs.length).length:=by
 obtain⟨t,ht⟩:=Cm h rs n i (rs.length-i);rw[show i+(rs.length-i)=rs.length by omega]at ht;rw[ht,List.length_append];omega
theorem Db(b:Bool)(A F:Int)(vs:List (Int×Int))(l:List Cel)(k:Nat):(cz b A F vs (l.take k)).length≤(cz b A F vs l).length:=by
 have e:=oQ b A F (l.take k) (l.drop k) vs;rw[List.take_append_drop]at e;rw[e,List.length_append];omega
attribute [local irreducible] Tc.bS suD bD rsD dK bI bJ dC putRow ofV vD gJ nu Sh.bY nO zs cz dG dL dW mvs cellsOf fZ dE eH
theorem mN(w:List UInt8)(n:Nat)(h:Hd)(rs:List Rw)(z:Int)(ok:jX rs)(hl:h.supp.length≤100)(hc:dE h rs z=0)(hyes:ib h rs z=true)(hw:iL w n)(hn:w.length=n)(hT:n+(dG h rs n rs.length).length≤9000000)(hz4:z≤1000000):
    ACalls (cxg gA) 26 [.ptr 0 0, .d (shD h (rsD rs) z)] (WO w) (fun r H=>r=I 0∧H=WO (w++aS h rs z n)):=by
  have ck:=(tY h rs z ok hl).more ia;rw[hc]at ck;obtain⟨hh,hz,hR,ha⟩:=fM hyes;obtain⟨hf,hlen⟩:=lW hyes;have sp:=DN (gl:=gA) h (rsD rs) z w n hh hw (by omega);rw[Td w h n hn]at sp;have k1:=jM (gl:=gA) h.fmt;have k2:=rH (gl:=gA) h.fmt;have hAb:=KF hf;have hLb:=Sd h.fmt;have hRb:fR h.fmt≤18:=by unfold fR;split<;>(try split)<;>(try split)<;>(try split)<;>(try split)<;>(try split)<;>decide
  have hof:=fun i hi=>lU (n:=n) (i:=i) hh ha hi
  have hcl:∀i,(cellsOf (rs.take i)).length≤(cellsOf rs).length:=fun i=>by
    have e:cellsOf rs=cellsOf (rs.take i)++cellsOf (rs.drop i):=by
      unfold cellsOf;rw[←List.flatMap_append,List.take_append_drop]
    rw[e,List.length_append];omega
  have hle:=fun i hi=>MU h rs n i hi
  have hcn:(cellsOf rs).length≤6336:=by
    have h1:fA h.fmt*fD h.fmt≤88*72:=Int.mul_le_mul hAb.2.1 hAb.2.2.2 (by omega) (by omega);omega
  have hrl:=ko rs;have o0:dG h rs n 0=zs (bE n)++Sh.bY h:=by unfold dG;rfl
  have f0:dW (fL h.fmt) rs 0=0:=by unfold dW;rfl
  have m0:vD (mvs (cellsOf (rs.take 0)))=[]:=by rw[List.take_zero];unfold vD mvs cellsOf;rfl
  have hfb:=fun i hi=>zh (rs:=rs) hLb i hi
  rw[←o0]at sp;refine ACalls.en Tryz.func26 Tryz.ntmps26 ?_;repeat (first|refine aa.aF ?_|refine aa.bh true ?_|refine aa.aj [0,1] (sp) ?_|refine aa.av (ck) ?_|refine aa.av (k1) ?_|refine aa.av (k2) ?_|refine aa.ah ?_|refine aa.ae ?_|refine aa.ak ?_|refine aa.aH ?_|refine aa.aM ?_|refine aa.aD ?_|refine aa.aQ ?_|refine aa.bX ?_|refine aa.CM 5 0 91 2 ?_|(apply aa.qO 5 0;rfl;rfl;rfl;first|rfl|(simp only[List.length_append,List.length_map,List.length_set,List.length_replicate,List.length_cons,List.length_nil];omega);simp only[List.set_cons_zero,List.set_cons_succ]))
  refine aa.weak (env':=[(43,I ((0:Nat):Int)),(42,I ((rsD rs).length:Int)),(41, .d (.sl 4 (rsD rs))),(12,yI),(11, .ptr 6 0),(9,I (fL h.fmt)),(3, .ptr 3 0),(2, .ptr 2 0)]) ⟨rfl,rfl,rfl,rfl,rfl,rfl,rfl,rfl,trivial⟩ ?_;refine aa.loop (fun m env H=>∃i:Nat,m=rs.length-i∧i≤rs.length∧env=[(43,I (i:Int)),(42,I ((rsD rs).length:Int)),(41, .d (.sl 4 (rsD rs))),(12,yI),(11, .ptr 6 0),(9,I (fL h.fmt)),(3, .ptr 3 0),(2, .ptr 2 0)]∧H=PO (w++dG h rs n i) h rs z (mvs (cellsOf (rs.take i))) (fA h.fmt) (dW (fL h.fmt) rs i)) rs.length
    ⟨0,rfl,by omega,rfl,by unfold PO;rw[m0,f0];rfl⟩ ?_
  rintro m env H ⟨i,rfl,hi,rfl,rfl⟩;rcases Nat.lt_or_ge i rs.length with hlt|hge
  · obtain ⟨r, hr⟩ : ∃ r, rs[i]? = some r := ⟨_, List.getElem?_eq_getElem hlt⟩
    have g1:=oH hr;obtain⟨hrl,hrc⟩:=ok.cells r (List.mem_of_getElem? hr);have hrow:=pQ ha (by omega) hr;have hcells:=rI hrow;have hX:=hcl i;have eX:=iz hr;have hX2:=hcl (i+1);rw[eX,List.length_append]at hX2;have hm:=ig r.cells;have fo:=hof i (by omega);have hle1:=hle i (by omega);have hle2:=hle (i+1) (by omega);have ho:=tJ (n:=n) (i:=i) (r:=r) fo;have eO:=kN (n:=n) hr (h:=h);have eF:=qi (L:=fL h.fmt) hr;have hFb:=hfb (i+1) (by omega);have hvI:=Im (RL ok i);have eM:mvs (cellsOf (rs.take (i+1)))=mvs (cellsOf (rs.take i))++mvs r.cells:=by rw[eX,vQ]
    have hmul:(0:Int)≤(i:Int)*fL h.fmt∧(i:Int)*fL h.fmt≤1000*4:=⟨Int.mul_nonneg (by omega) hLb.1,Int.mul_le_mul (by omega) hLb.2 hLb.1 (by omega)⟩;generalize hXX:cellsOf (rs.take i)=X at *;generalize hMM:mvs X=M at *;have hML:M.length=X.length:=by rw[←hMM,vP]
    generalize hOO:dG h rs n i=O at *;generalize hFF:dW (fL h.fmt) rs i=F0 at *;have wO:iL (w++O) (n+(137+36*i+13000*X.length)):=hw.app fo;have c0:∀F,cz h.inter (fA h.fmt) F M (r.cells.take 0)=[]:=fun F=>by rw[List.take_zero];unfold cz;rfl
    have m00:mvs (r.cells.take 0)=[]:=by rw[List.take_zero];unfold mvs;rfl
    have hcf:=fun k=>nD (A:=fA h.fmt) (F:=dW (fL h.fmt) rs (i+1)) (r.cells.take k) M (fun c hc=>hcells c (List.mem_of_mem_take hc))
    generalize hF1:dW (fL h.fmt) rs (i+1)=F1 at *;rcases Bool.eq_false_or_eq_true r.head with hd|hd;all_goals
      first
        | (obtain ⟨q0, q1, q2⟩ := Jh hrow hd
           have rp:=MF (gl:=gA) (w++O) i r.id r.quant wO.1 (by rw[List.length_append];omega) (by omega) q1 q2;rw[Hw hn hd]at rp;rw[if_pos hd]at eF;have e1:dL n i r O=dL n i r O:=rfl;have e2:(i:Int)*fL h.fmt=F1:=eF.symm;repeat' (first|refine aa.aF ?_|(apply aa.opx;(apply bR;(iterate 7 rfl);(first|omega|(rw[hrl];omega)|(exact⟨by omega,by omega⟩));exact g1);rfl;rfl;rfl)|(apply aa.q true;rfl;rfl;rfl;rfl;first|exact True.intro|omega|(simp only[tn,Int.reduceToNat];omega)|(rw[hrl];omega)|(exact⟨by omega,by omega⟩))|refine aa.aj [0,1] (rp) ?_|refine aa.ah ?_|refine aa.ae ?_|refine aa.ak ?_|refine aa.aH ?_|refine aa.aM ?_|refine aa.aD ?_|(apply aa.cBT;rfl;first|(simp only[bT];omega)|(exact hd))|(apply aa.cBF;rfl;first|(simp only[bF];omega)|exact ndF rfl|(exact hd))|intro _|refine aa.aA ?_|refine aa.aJ ?_)
           rw[e2])
        | (have rp := Km (n := n) (i := i) (out := O) hd
           rw[if_neg (by rw[hd];decide)]at eF;repeat' (first|refine aa.aF ?_|(apply aa.opx;(apply bR;(iterate 7 rfl);(first|omega|(rw[hrl];omega));exact g1);rfl;rfl;rfl)|(apply aa.q true;rfl;rfl;rfl;rfl;first|exact True.intro|omega|(simp only[tn,Int.reduceToNat];omega)|(rw[hrl];omega))|refine aa.ah ?_|refine aa.ae ?_|refine aa.ak ?_|refine aa.aH ?_|refine aa.aM ?_|refine aa.aD ?_|(apply aa.cBT;rfl;first|(simp only[bT];omega)|(exact hd))|(apply aa.cBF;rfl;first|(simp only[bF];omega)|exact ndF rfl|(exact hd))|intro _|refine aa.aA ?_|refine aa.aJ ?_)
           rw[←eF,←rp])
    all_goals
      generalize hHO:dL n i r O=Q at *;refine aa.weak (env':=[(63,I ((0:Nat):Int)),(62,I ((bD r.cells).length:Int)),(61, .d (.sl 18 (bD r.cells))),(43,I (i:Int)),(42,I ((rsD rs).length:Int)),(41, .d (.sl 4 (rsD rs))),(12,yI),(11, .ptr 6 0),(9,I (fL h.fmt)),(3, .ptr 3 0),(2, .ptr 2 0)]) ⟨rfl,rfl,rfl,rfl,rfl,rfl,rfl,rfl,rfl,rfl,rfl,trivial⟩ ?_;refine aa.loop (fun m env H=>∃k:Nat,m=r.cells.length-k∧k≤r.cells.length∧env=[(63,I (k:Int)),(62,I ((bD r.cells).length:Int)),(61, .d (.sl 18 (bD r.cells))),(43,I (i:Int)),(42,I ((rsD rs).length:Int)),(41, .d (.sl 4 (rsD rs))),(12,yI),(11, .ptr 6 0),(9,I (fL h.fmt)),(3, .ptr 3 0),(2, .ptr 2 0)]∧H=PO (w++(Q++cz h.inter (fA h.fmt) F1 M (r.cells.take k))) h rs z (M++mvs (r.cells.take k)) (fA h.fmt) F1++[.cells (rwA r)]) r.cells.length
        ⟨0,rfl,by omega,rfl,by rw[c0,m00,List.append_nil,List.append_nil];rfl⟩ ?_
      rintro m env H ⟨k,rfl,hk,rfl,rfl⟩;rcases Nat.lt_or_ge k r.cells.length with hlt2|hge2
      · obtain ⟨c, hc2⟩ : ∃ c, r.cells[k]? = some c := ⟨_, List.getElem?_eq_getElem hlt2⟩
        have g2:=kT hc2;have okc:=hrc c (List.mem_of_getElem? hc2);have hrc2:=hcells c (List.mem_of_getElem? hc2);have hfk:=hcf k;have hkl:(r.cells.take k).length=k:=by rw[List.length_take];omega
        rw[hkl]at hfk;have wk:iL (w++(Q++cz h.inter (fA h.fmt) F1 M (r.cells.take k))) 10000000:=by
          have:=hw.app (ho.app hfk);have hck:=Db h.inter (fA h.fmt) F1 M r.cells k;have hq2:=hle2;rw[eO,List.length_append]at hq2;exact⟨this.1,by simp only[List.length_append];omega⟩
        have hvk:mZ (M++mvs (r.cells.take k)):=fun p hp=>by
          rcases List.mem_append.1 hp with hp|hp
          · exact hvI p hp
          · exact Im (fun c hc=>hrc c (List.mem_of_mem_take hc)) p hp
        have hvl:(M++mvs (r.cells.take k)).length≤1000000:=by rw[List.length_append,vP,hkl];omega
        have p1:=PI (w++(Q++cz h.inter (fA h.fmt) F1 M (r.cells.take k))) h rs z (M++mvs (r.cells.take k)) (fA h.fmt) F1 c okc hrc2 wk (by omega) hvl hvk;have eT:w++(Q++cz h.inter (fA h.fmt) F1 M (r.cells.take k))++fZ h.inter (fA h.fmt) F1 (M++mvs (r.cells.take k)) c=w++(Q++cz h.inter (fA h.fmt) F1 M (r.cells.take (k+1))):=by rw[yp _ _ _ _ hc2];simp only[List.append_assoc]
        have eV:M++mvs (r.cells.take k)++[mvP c]=M++mvs (r.cells.take (k+1)):=by rw[JI hc2,List.append_assoc]
        rw[eT,eV]at p1;repeat' (first|refine aa.aF ?_|refine aa.vp ?_|refine aa.q'j true ?_|refine aa.aj [0,1,2,3,4,5,6,7] (p1) ?_|refine aa.ah ?_|refine aa.ae ?_|refine aa.ak ?_|refine aa.aH ?_|refine aa.aM ?_|refine aa.aD ?_|refine aa.aQ ?_|refine aa.bX ?_|intro _|refine aa.aA ?_|refine aa.aJ ?_)
        all_goals first
          |exact aa.jr 9 [(63,I ((k+1:Nat):Int)),(62,I ((bD r.cells).length:Int)),(61, .d (.sl 18 (bD r.cells))),(43,I (i:Int)),(42,I ((rsD rs).length:Int)),(41, .d (.sl 4 (rsD rs))),(12,yI),(11, .ptr 6 0),(9,I (fL h.fmt)),(3, .ptr 3 0),(2, .ptr 2 0)] (r.cells.length-(k+1)) (by omega) rfl rfl rfl rfl ⟨rfl,rfl,rfl,rfl,rfl,rfl,rfl,rfl,rfl,rfl,rfl,trivial⟩ ⟨k+1,rfl,hlt2,rfl,rfl⟩
          |omega
      · obtain rfl : k = r.cells.length := by omega
        rw[List.take_length];repeat' (first|refine aa.aF ?_|refine aa.bh true ?_|refine aa.ah ?_|refine aa.ae ?_|refine aa.ak ?_|refine aa.aH ?_|refine aa.aM ?_|refine aa.aD ?_|refine aa.aQ ?_|refine aa.bX ?_|intro _|refine aa.aA ?_|refine aa.aJ ?_)
        all_goals first
          |exact aa.jr 8 [(43,I ((i+1:Nat):Int)),(42,I ((rsD rs).length:Int)),(41, .d (.sl 4 (rsD rs))),(12,yI),(11, .ptr 6 0),(9,I (fL h.fmt)),(3, .ptr 3 0),(2, .ptr 2 0)] (rs.length-(i+1)) (by omega) rfl rfl rfl rfl ⟨rfl,rfl,rfl,rfl,rfl,rfl,rfl,rfl,trivial⟩ ⟨i+1,rfl,hlt,rfl,by rw[eO,eM,hF1];rfl⟩
          |omega
  · obtain rfl : i = rs.length := by omega
    have fo:=hof rs.length (Nat.le_refl _);rw[List.take_length]at fo;have hrl18:rs.length≤18:=by omega
    have wf:=ES (gl:=gA) (w++dG h rs n rs.length) (by rw[List.length_append];omega);rw[vO,List.length_append,hn]at wf;obtain⟨N,hN⟩:=Int.eq_ofNat_of_zero_le hz.1;have hso:w++dG h rs n rs.length++zs (bE (n+(dG h rs n rs.length).length))++zs (8*N)=w++aS h rs z n:=by
      unfold aS;rw[hN,Int.toNat_natCast];simp only[List.append_assoc]
    rw[←hso];have hWf:=(hw.app fo).app (jI (bE (n+(dG h rs n rs.length).length)));have hp7:=kx (n+(dG h rs n rs.length).length);have hWl:(w++dG h rs n rs.length++zs (bE (n+(dG h rs n rs.length).length))).length≤9000007:=by
      simp only[List.length_append,show ∀k,(zs k).length=k from fun k=>by unfold zs;simp];omega
    generalize w++dG h rs n rs.length++zs (bE (n+(dG h rs n rs.length).length))=W at *;have zz:W++zs (8*0)=W:=by unfold zs;simp
    repeat' (first|refine aa.aF ?_|refine aa.bh true ?_|refine aa.aj [0,1] (wf) ?_|refine aa.ah ?_|refine aa.ae ?_|refine aa.ak ?_|refine aa.aH ?_|refine aa.aM ?_|refine aa.aD ?_|refine aa.aQ ?_|refine aa.bX ?_|intro _|refine aa.aA ?_|refine aa.aJ ?_)
    refine aa.weak (env':=[(76,I ((0:Nat):Int)),(75,I z),(2, .ptr 2 0)]) ⟨rfl,rfl,rfl,trivial⟩ ?_;refine aa.loop (fun m env H=>∃k:Nat,m=N-k∧k≤N∧env=[(76,I (k:Int)),(75,I z),(2, .ptr 2 0)]∧H=PO (W++zs (8*k)) h rs z (mvs (cellsOf (rs.take rs.length))) (fA h.fmt) (dW (fL h.fmt) rs rs.length)) N
      ⟨0,rfl,by omega,rfl,by rw[zz];rfl⟩ ?_
    rintro m env H ⟨k,rfl,hk,rfl,rfl⟩;rcases Nat.lt_or_ge k N with hlt|hge2
    · have wk := hWf.app (jI (8 * k))
      have wp:=ul (gl:=gA) (W++zs (8*k)) 0 8 wk.1 (by rw[List.length_append,show (zs (8*k)).length=8*k by unfold zs;simp];omega) (by omega) (by decide);rw[Sq,List.append_assoc,O3,show 8*k+8=8*(k+1) by omega]at wp;repeat' (first|refine aa.aF ?_|refine aa.bh true ?_|refine aa.aj [0,1] (wp) ?_|refine aa.ah ?_|refine aa.ae ?_|refine aa.ak ?_|refine aa.aH ?_|refine aa.aM ?_|refine aa.aD ?_|refine aa.aQ ?_|refine aa.bX ?_|intro _|refine aa.aA ?_|refine aa.aJ ?_)
      all_goals first
        |exact aa.round [(76,I ((k+1:Nat):Int)),(75,I z),(2, .ptr 2 0)] (N-(k+1)) (by omega) ⟨rfl,rfl,rfl,trivial⟩ ⟨k+1,rfl,hlt,rfl,rfl⟩
        |omega
    · obtain rfl : k = N := by omega
      repeat' (first|refine aa.aF ?_|refine aa.bh true ?_|refine aa.ah ?_|refine aa.ae ?_|refine aa.ak ?_|refine aa.aH ?_|refine aa.aM ?_|refine aa.aD ?_|refine aa.aQ ?_|refine aa.bX ?_|intro _|refine aa.aA ?_|refine aa.aJ ?_)
      all_goals exact Tn
theorem DU(w:List UInt8)(n:Nat)(h:Hd)(rs:List Rw)(z:Int)(ok:jX rs)(hl:h.supp.length≤100)(hc:dE h rs z=0)(hyes:ib h rs z=true)(hw:iL w n)(hn:w.length=n)(hbig:n+13000*(cellsOf rs).length+1000≤9000000)(hz4:z≤1000000):
  ACalls (cxg gA) 26 [.ptr 0 0, .d (shD h (rsD rs) z)] (WO w) (fun r H=>r=I 0∧H=WO (w++aS h rs z n)):=by
 obtain⟨hh,hz,hR,ha⟩:=fM hyes;have fo:=lU (n:=n) hh ha rs.length (Nat.le_refl _);rw[List.take_length]at fo;have hRb:fR h.fmt≤18:=by unfold fR;split<;>(try split)<;>(try split)<;>(try split)<;>(try split)<;>(try split)<;>decide
 exact mN w n h rs z ok hl hc hyes hw hn (by have:=fo.2;omega) hz4
theorem yh(w:List UInt8)(h:Hd)(rs:List Rw)(z:Int)(ok:jX rs)(hl:h.supp.length≤100)(hc:dE h rs z≠0):
  ACalls (cxg gA) 26 [.ptr 0 0, .d (shD h (rsD rs) z)] (WO w) (fun r H=>r=I (dE h rs z)∧H=WO w):=by
 have ck:=(tY h rs z ok hl).more ia;refine ACalls.en Tryz.func26 Tryz.ntmps26 ?_;repeat' (first|refine aa.aF ?_|refine aa.bh true ?_|refine aa.av (ck) ?_|refine aa.ak ?_|refine aa.aM ?_|refine aa.aQ ?_|intro _|refine aa.aA ?_)
 all_goals exact Tn
end Sh
end Go.Proofs.YtbpednchkndocaaGreatDoor.Av
