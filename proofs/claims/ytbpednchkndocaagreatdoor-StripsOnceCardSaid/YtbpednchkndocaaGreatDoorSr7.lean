/- Strips are written: strips.Write and the document's Write. -/
import Derived.Test.YtbpednchkndocaaGreatDoorPq7
import Derived.Test.YtbpednchkndocaaGreatDoorSr2
import Derived.Test.YtbpednchkndocaaGreatDoorSl4
set_option linter.unusedVariables false
set_option linter.unusedSimpArgs false
set_option maxRecDepth 100000
set_option maxHeartbeats 64000000
namespace Go.Proofs.YtbpednchkndocaaGreatDoor.Av
namespace Sr
open Go Bt Sh Co Ci Tc Si Wr
attribute [local irreducible] aa ACalls aW aK bP aT cK cF cG
variable {gl:List (Nat×List D)}
def wrT(l:List Sx)(e:Bool):List UInt8×Int:=if ckS l≠0 then ([],ckS l) else if 2097152<(fO l e).length then ([],13) else (bJ (fO l e),0)
structure Ft(x:Sx):Prop where
 d:(lI x).all bB=true
 n:(lI x).length≤6000000
theorem yL{l:List Sx}{i:Nat}{x:Sx}(h:l[i]?=some x):outs (l.take (i+1))=outs (l.take i)++lI x:=by
 rw[List.take_add_one,h,xc];simp[outs]
theorem sU(l:List Sx)(i:Nat):(outs (l.take i)).length≤(outs l).length:=by
 have:outs l=outs (l.take i)++outs (l.drop i):=by rw[←xc,List.take_append_drop]
 rw[this,List.length_append];omega
theorem Jz{l:List Sx}(h:∀x∈l,(lI x).all bB=true)(i:Nat):(outs (l.take i)).all bB=true:=by
 unfold outs;rw[List.all_flatMap];exact List.all_eq_true.2 fun x hx=>h x (List.mem_of_mem_take hx)
attribute [local irreducible] Tc.bS suD bD rsD dS dE nY ckS outs lI bJ aS
theorem uq(l:List Sx)(e:Bool)(hl:l.length≤1000000)(hL:∀x∈l,Lt x)(hF:∀x∈l,Ft x):ACalls (cxg gB) 50 [.d (stD l e)] [] (fun r H=>r = .cH [S (wrT l e).1,I (wrT l e).2]∧H=[]):=by
 have hn:=ju l;have ck:=ut l e hl hL;unfold wrT;by_cases h0:ckS l=0
 ·obtain⟨hb,hg,hf⟩:=wh h0;rw[h0]at ck;rw[if_neg (by omega)];have nw:=rA (gl:=gB);have hd:=fun i=>Jz (fun x hx=>(hF x hx).d) i
  have o0:outs (l.take 0)=[]:=by rw[List.take_zero];unfold outs;rfl
  obtain⟨Z,hZ⟩:∃Z:List UInt8×Int,Z=if 2097152<(fO l e).length then ([],13) else (bJ (fO l e),0):=⟨_,rfl⟩
  rw[←hZ];have hle:(outs l).length≤(fO l e).length:=by unfold fO;rw[List.length_append];omega
  refine ACalls.en Tryz.func50 Tryz.ntmps50 ?_;repeat (first|refine aa.aF ?_|refine aa.q'd true ?_|refine aa.aj [] (nw) ?_|refine aa.av (ck) ?_|refine aa.ah ?_|refine aa.ae ?_|refine aa.aB ?_|refine aa.ak ?_|refine aa.aH ?_|refine aa.aM ?_|refine aa.aD ?_|refine aa.aQ ?_)
  refine aa.weak (env':=[(17,I ((0:Nat):Int)),(16,I ((dS l).length:Int)),(15, .d (.sl 8 (dS l))),(5, .ptr 1 0),(1, .ptr 0 0)]) ⟨rfl,rfl,rfl,rfl,rfl,trivial⟩ ?_
  refine aa.loop (fun m env H=>∃i:Nat,m=l.length-i∧i≤l.length∧(outs (l.take i)).length≤2097152∧env=[(17,I (i:Int)),(16,I ((dS l).length:Int)),(15, .d (.sl 8 (dS l))),(5, .ptr 1 0),(1, .ptr 0 0)] ∧
    H = .cells [.d (.sl 8 (dS l)),B e]::[.cells [.ms 2 (bI (bJ (outs (l.take i)))).length,I (outs (l.take i)).length], .arr 5 1 (bI (bJ (outs (l.take i))))]) l.length
   ⟨0,rfl,by omega,by rw[o0];decide,rfl,by rw[o0];rfl⟩ ?_
  rintro m env H ⟨i,rfl,hi,hw,rfl,rfl⟩;rcases Nat.lt_or_ge i l.length with hlt|hge
  ·obtain⟨x,hx⟩:∃x,l[i]?=some x:=⟨_,List.getElem?_eq_getElem hlt⟩;have g1:=nI hx;have hm:=List.mem_of_getElem? hx;have lt:=hL x hm;have ft:=hF x hm;have gd:=hg x hm;have h8:=Ah (l.take i);have hp0:Bt.bE (outs (l.take i)).length=0:=by unfold Bt.bE;omega
   have ep:=oD x.h x.rs x.z (outs (l.take i)).length;rw[hp0]at ep;have ez:zs 0=[]:=rfl;rw[ez,List.nil_append]at ep;have hz:=(fM gd.f).2.1;have hO:(dG x.h x.rs (outs (l.take i)).length x.rs.length).length≤(lI x).length:=by
    have e1:lI x=aS x.h x.rs x.z (outs (l.take i)).length:=by rw[ep];unfold lI;rfl
    rw[e1];unfold aS;simp only[List.length_append];omega
   have sp:ACalls (cxg gB) 26 [.ptr 0 0, .d (shD x.h (rsD x.rs) x.z)] (WO (outs (l.take i))) (fun r H=>r=I 0∧H=WO (outs (l.take i)++aS x.h x.rs x.z (outs (l.take i)).length)) :=
    mN (outs (l.take i)) (outs (l.take i)).length x.h x.rs x.z lt.ok lt.s gd.ck gd.f ⟨hd i,Nat.le_refl _⟩ rfl (by have:=ft.n;omega) (by omega)
   have e2:outs (l.take i)++aS x.h x.rs x.z (outs (l.take i)).length=outs (l.take (i+1)):=by
    rw[ep,yL hx];unfold lI;rfl
   rw[e2]at sp;have ln:=um (gl:=gB) (outs (l.take (i+1)));have ho:=sU l (i+1);obtain⟨⟨a,b,c,d,e',f⟩,rs,z⟩:=x;simp only at sp;by_cases hbig:2097152<(outs (l.take (i+1))).length
   ·rw[if_pos (by omega)]at hZ;rw[hZ];repeat' (first|refine aa.aF ?_|refine aa.o9 ?_|refine aa.q'd true ?_|refine aa.aj [1,2] (sp) ?_|refine aa.aj [1,2] (ln) ?_|refine aa.ah ?_|refine aa.ae ?_|refine aa.aB ?_|refine aa.ak ?_|refine aa.aH ?_|refine aa.aM ?_|refine aa.aD ?_|refine aa.aQ ?_|intro _|refine aa.aA ?_|refine aa.aP ?_|refine aa.aJ ?_)
    all_goals exact Tn
   ·repeat' (first|refine aa.aF ?_|refine aa.o9 ?_|refine aa.q'd true ?_|refine aa.aj [1,2] (sp) ?_|refine aa.aj [1,2] (ln) ?_|refine aa.ah ?_|refine aa.ae ?_|refine aa.aB ?_|refine aa.ak ?_|refine aa.aH ?_|refine aa.aM ?_|refine aa.aD ?_|refine aa.aQ ?_|intro _|refine aa.aA ?_|refine aa.aP ?_|refine aa.aJ ?_)
    all_goals first
     |exact aa.jr 3 [(17,I ((i+1:Nat):Int)),(16,I ((dS l).length:Int)),(15, .d (.sl 8 (dS l))),(5, .ptr 1 0),(1, .ptr 0 0)] (l.length-(i+1)) (by omega) rfl rfl rfl rfl ⟨rfl,rfl,rfl,rfl,rfl,trivial⟩ ⟨i+1,rfl,hlt,by omega,rfl,rfl⟩
     |omega
  ·obtain rfl:i=l.length:=by omega
   have hda:=hd l.length;rw[List.take_length]at hw hda ⊢;cases e with
   |false =>
    have es:fO l false=outs l:=by unfold fO;rw[if_neg (by decide),List.append_nil]
    rw[es]at hZ;rw[if_neg (by omega)]at hZ;rw[hZ];have ln:=um (gl:=gB) (outs l);have tx:=zK (gl:=gB) (outs l);repeat' (first|refine aa.aF ?_|refine aa.q'd true ?_|refine aa.aj [1,2] (ln) ?_|refine aa.aj [1,2] (tx) ?_|refine aa.ah ?_|refine aa.ae ?_|refine aa.aB ?_|refine aa.ak ?_|refine aa.aH ?_|refine aa.aM ?_|refine aa.aD ?_|refine aa.aQ ?_|intro _|refine aa.aA ?_|refine aa.aP ?_|refine aa.aJ ?_)
    all_goals exact Tn
   | true =>
    have mp:=Ei (gl:=gB) (outs l) 31 hda (by omega) (by decide);have h8:=Ah l;have hp0:Bt.bE (outs l).length=0:=by unfold Bt.bE;omega
    have es:dC (outs l)++gK 31=fO l true:=by
     unfold dC fO;rw[hp0,if_pos rfl];simp
    rw[es]at mp;have ln:=um (gl:=gB) (fO l true);have tx:=zK (gl:=gB) (fO l true);by_cases hbig:2097152<(fO l true).length
    ·rw[if_pos hbig]at hZ;rw[hZ];repeat' (first|refine aa.aF ?_|refine aa.q'd true ?_|refine aa.aj [1,2] (mp) ?_|refine aa.aj [1,2] (ln) ?_|refine aa.aj [1,2] (tx) ?_|refine aa.ah ?_|refine aa.ae ?_|refine aa.aB ?_|refine aa.ak ?_|refine aa.aH ?_|refine aa.aM ?_|refine aa.aD ?_|refine aa.aQ ?_|intro _|refine aa.aA ?_|refine aa.aP ?_|refine aa.aJ ?_)
     all_goals exact Tn
    ·rw[if_neg hbig]at hZ;rw[hZ];repeat' (first|refine aa.aF ?_|refine aa.q'd true ?_|refine aa.aj [1,2] (mp) ?_|refine aa.aj [1,2] (ln) ?_|refine aa.aj [1,2] (tx) ?_|refine aa.ah ?_|refine aa.ae ?_|refine aa.aB ?_|refine aa.ak ?_|refine aa.aH ?_|refine aa.aM ?_|refine aa.aD ?_|refine aa.aQ ?_|intro _|refine aa.aA ?_|refine aa.aP ?_|refine aa.aJ ?_)
     all_goals exact Tn
 ·rw[if_pos h0];refine ACalls.en Tryz.func50 Tryz.ntmps50 ?_;repeat' (first|refine aa.aF ?_|refine aa.bh true ?_|refine aa.av (ck) ?_|refine aa.ah ?_|refine aa.ae ?_|refine aa.aB ?_|refine aa.ak ?_|refine aa.aH ?_|refine aa.aM ?_|refine aa.aD ?_|refine aa.aQ ?_|intro _|refine aa.aA ?_|refine aa.aP ?_|refine aa.aJ ?_)
  all_goals exact Tn
end Sr
namespace Sr
open Go Bt Sh Co Ci Tc Si Wr
attribute [local irreducible] aa ACalls aW aK bP aT cK cF cG
variable {gl:List (Nat×List D)}
theorem Hq{l:List Sx}{i:Nat}{x:Sx}(hx:l[i]?=some x)(h:xm x=false):kO l=false:=by
 have:l.all xm=false:=List.all_eq_false.2 ⟨x,List.mem_of_getElem? hx,by rw[h];decide⟩;unfold kO;rw[this,Bool.and_false];rfl
attribute [local irreducible] bS suD bD rsD dS cellsOf gN kO
theorem Hr(l:List Sx)(e:Bool)(hb:Big l.length)(st:∀x∈l,SxI x):ACalls (cxg gl) 49 [.d (stD l e)] [] (fun r H=>r=B (kO l)∧H=[]):=by
 have hn:=ju l;unfold Big at hb;by_cases h70:l.length≤70
 ·obtain⟨Z,hZ⟩:∃Z,Z=kO l:=⟨_,rfl⟩;rw[←hZ];have m0:dx (l.take 0)=0:=by rw[List.take_zero];rfl
  refine ACalls.en Tryz.func49 Tryz.ntmps49 ?_;repeat' (first|refine aa.aF ?_|refine aa.q'd true ?_|refine aa.ah ?_|refine aa.ae ?_|refine aa.aB ?_|refine aa.aM ?_|refine aa.au ?_|refine aa.aQ ?_|refine aa.bX ?_|refine aa.aC ?_|intro _|refine aa.aA ?_|refine aa.aP ?_|refine aa.aJ ?_)
  all_goals first|omega|skip
  refine aa.weak (env':=[(4,I ((0:Nat):Int)),(3,I ((dx (l.take 0):Nat):Int)),(1, .ptr 0 0)]) ⟨rfl,by rw[m0];rfl,rfl,trivial⟩ ?_;refine aa.loop (fun m env H=>∃i:Nat,m=l.length-i∧i≤l.length∧(l.take i).all xm=true∧dx (l.take i)≤204*i∧env=[(4,I (i:Int)),(3,I ((dx (l.take i):Nat):Int)),(1, .ptr 0 0)]∧H=[.cells [.d (.sl 8 (dS l)),B e]]) l.length
   ⟨0,rfl,by omega,by simp,by rw[m0];omega,rfl,rfl⟩ ?_
  rintro m env H ⟨i,rfl,hi,hal,hm,rfl,rfl⟩;rcases Nat.lt_or_ge i l.length with hlt|hge
  ·obtain⟨x,hx⟩:∃x,l[i]?=some x:=⟨_,List.getElem?_eq_getElem hlt⟩;have g1:=nI hx;have sx:=st x (List.mem_of_getElem? hx);have lc:=yY (gl:=gl) x.h x.rs x.z sx;have et:=GL hx;rw[hal,Bool.true_and]at et;have em:=En hx;cases hL:xm x with
   | false =>
    have hno:=Hq hx hL;rw[hno]at hZ;subst hZ;unfold xm at hL;cases hl1:gN x.h x.rs with
    |false =>
     rw[hl1]at lc;obtain⟨⟨a,b,c,d,e',f⟩,rs,z⟩:=x;simp only at lc;repeat' (first|refine aa.aF ?_|refine aa.o9 ?_|refine aa.q'd true ?_|refine aa.av (lc) ?_|refine aa.ah ?_|refine aa.ae ?_|refine aa.aB ?_|refine aa.aM ?_|refine aa.au ?_|refine aa.aQ ?_|refine aa.bX ?_|refine aa.aC ?_|intro _|refine aa.aA ?_|refine aa.aP ?_|refine aa.aJ ?_)
     all_goals exact Tn
    |true =>
     rw[hl1]at lc hL;rw[Bool.true_and,decide_eq_false_iff_not]at hL;obtain⟨⟨a,b,c,d,e',f⟩,rs,z⟩:=x;simp only at lc hL;repeat' (first|refine aa.aF ?_|refine aa.o9 ?_|refine aa.q'd true ?_|refine aa.av (lc) ?_|refine aa.ah ?_|refine aa.ae ?_|refine aa.aB ?_|refine aa.aM ?_|refine aa.au ?_|refine aa.aQ ?_|refine aa.bX ?_|refine aa.aC ?_|intro _|refine aa.aA ?_|refine aa.aP ?_|refine aa.aJ ?_)
     all_goals exact Tn
   | true =>
    rw[hL]at et;unfold xm at hL;rw[Bool.and_eq_true,decide_eq_true_eq]at hL;obtain⟨ok,hs1,hc1⟩:=qg sx hL.1;have hz1:=hL.2;have hrf:=ok.few;rw[hL.1]at lc;have hrn:=ko x.rs;have c0:(cellsOf (x.rs.take 0)).length=0:=by rw[List.take_zero];unfold cellsOf;rfl
    obtain⟨⟨a,b,c,d,e',f⟩,rs,z⟩:=x;simp only at lc hz1 hrn c0 hc1 hrf em;repeat' (first|refine aa.aF ?_|refine aa.o9 ?_|refine aa.q'd true ?_|refine aa.av (lc) ?_|refine aa.ah ?_|refine aa.ae ?_|refine aa.aB ?_|refine aa.aM ?_|refine aa.au ?_|refine aa.aQ ?_|refine aa.bX ?_|refine aa.aC ?_|intro _|refine aa.aA ?_|refine aa.aP ?_|refine aa.aJ ?_)
    all_goals first|omega|skip
    refine aa.weak (env':=[(5,I ((0:Nat):Int)),(3,I ((dx (l.take i)+4+(cellsOf (rs.take 0)).length:Nat):Int)),(4,I (i:Int)),(1, .ptr 0 0)]) ⟨rfl,by rw[c0];rfl,rfl,rfl,trivial⟩ ?_;refine aa.loop (fun m env H=>∃k:Nat,m=rs.length-k∧k≤rs.length∧env=[(5,I (k:Int)),(3,I ((dx (l.take i)+4+(cellsOf (rs.take k)).length:Nat):Int)),(4,I (i:Int)),(1, .ptr 0 0)]∧H=[.cells [.d (.sl 8 (dS l)),B e]]) rs.length
     ⟨0,rfl,by omega,rfl,rfl⟩ ?_
    rintro m env H ⟨k,rfl,hk,rfl,rfl⟩;rcases Nat.lt_or_ge k rs.length with hlt2|hge2
    ·obtain⟨r,hr⟩:∃r,rs[k]?=some r:=⟨_,List.getElem?_eq_getElem hlt2⟩;have g2:=oH hr;have et2:=iz hr;have hcl:=ig r.cells;have hcl2:=(ok.cells r (List.mem_of_getElem? hr)).1;have hct:(cellsOf (rs.take (k+1))).length=(cellsOf (rs.take k)).length+r.cells.length:=by rw[et2,List.length_append]
     have hkl:(cellsOf (rs.take k)).length≤1000*k:=by
      refine Nat.le_trans (rW _ fun r' hr'=>(ok.cells r' (List.mem_of_mem_take hr')).1) ?_;rw[List.length_take];omega
     obtain⟨h1,i1,q1,cs⟩:=r;simp only at hcl hcl2 hct;repeat' (first|refine aa.aF ?_|(apply aa.opx;(apply bR;(iterate 7 rfl);(first|omega|(rw[hn];omega)|(rw[hrn];omega)|(rw[hcl];omega));exact g1);rfl;rfl;rfl)|(apply aa.opx;(apply bR;(iterate 7 rfl);(first|omega|(rw[hn];omega)|(rw[hrn];omega)|(rw[hcl];omega));exact g2);rfl;rfl;rfl)|(apply aa.q true;rfl;rfl;rfl;rfl;first|exact True.intro|omega|(simp only[tn,Int.reduceToNat];omega)|(rw[hn];omega)|(rw[hrn];omega)|(rw[hcl];omega))|refine aa.ah ?_|refine aa.ae ?_|refine aa.aB ?_|refine aa.aM ?_|refine aa.au ?_|refine aa.aQ ?_|refine aa.bX ?_|refine aa.aC ?_|intro _|refine aa.aA ?_|refine aa.aP ?_|refine aa.aJ ?_)
     all_goals first
      |exact aa.round [(5,I ((k+1:Nat):Int)),(3,I ((dx (l.take i)+4+(cellsOf (rs.take (k+1))).length:Nat):Int)),(4,I (i:Int)),(1, .ptr 0 0)] (rs.length-(k+1)) (by omega) ⟨rfl,congrArg I (by rw[hct,hcl];omega),rfl,rfl,trivial⟩ ⟨k+1,rfl,hlt2,rfl,rfl⟩
      |omega
    ·obtain rfl:k=rs.length:=by omega
     rw[List.take_length];repeat' (first|refine aa.aF ?_|(apply aa.opx;(apply bR;(iterate 7 rfl);(first|omega|(rw[hn];omega)|(rw[hrn];omega));exact g1);rfl;rfl;rfl)|(apply aa.q true;rfl;rfl;rfl;rfl;first|exact True.intro|omega|(simp only[tn,Int.reduceToNat];omega)|(rw[hn];omega)|(rw[hrn];omega))|refine aa.ah ?_|refine aa.ae ?_|refine aa.aB ?_|refine aa.aM ?_|refine aa.au ?_|refine aa.aQ ?_|refine aa.bX ?_|refine aa.aC ?_|intro _|refine aa.aA ?_|refine aa.aP ?_|refine aa.aJ ?_)
     all_goals first
      |exact aa.round [(4,I ((i+1:Nat):Int)),(3,I ((dx (l.take (i+1)):Nat):Int)),(1, .ptr 0 0)] (l.length-(i+1)) (by omega) ⟨rfl,by rw[em];exact congrArg I (by omega),rfl,trivial⟩ ⟨i+1,rfl,hlt,et,by omega,rfl,rfl⟩
      |omega
  ·obtain rfl:i=l.length:=by omega
   rw[List.take_length]at hal hm ⊢;have hZ2:Z=decide (dx l≤600):=by
    rw[hZ];unfold kO;rw[hal,decide_eq_true h70];rfl
   rw[hZ2];repeat' (first|refine aa.aF ?_|refine aa.q'd true ?_|refine aa.ah ?_|refine aa.ae ?_|refine aa.aB ?_|refine aa.aM ?_|refine aa.au ?_|refine aa.aQ ?_|refine aa.bX ?_|refine aa.aC ?_|intro _|refine aa.aA ?_|refine aa.aP ?_|refine aa.aJ ?_)
   all_goals first|exact⟨rfl,rfl⟩|exact⟨congrArg B (by simp;omega),rfl⟩|omega
 ·have:kO l=false:=by unfold kO;rw[decide_eq_false h70];rfl
  rw[this];refine ACalls.en Tryz.func49 Tryz.ntmps49 ?_;repeat' (first|refine aa.aF ?_|refine aa.q'd true ?_|refine aa.ah ?_|refine aa.ae ?_|refine aa.aB ?_|refine aa.aM ?_|refine aa.au ?_|refine aa.aQ ?_|refine aa.bX ?_|refine aa.aC ?_|intro _|refine aa.aA ?_|refine aa.aP ?_|refine aa.aJ ?_)
  all_goals exact Tn
theorem J9{l:List Sx}(h:kO l=true)(st:∀x∈l,SxI x):l.length≤70∧(∀x∈l,Lt x)∧uT l∧(∀x∈l,(cellsOf x.rs).length≤200):=by
 unfold kO at h;simp only[Bool.and_eq_true,decide_eq_true_eq]at h;obtain⟨⟨h1,h2⟩,h3⟩:=h;have hx:∀x∈l,gN x.h x.rs=true:=fun x hx=>by
  have:=List.all_eq_true.1 h2 x hx;unfold xm at this;rw[Bool.and_eq_true]at this;exact this.1
 refine⟨h1,fun x hm=>?_,⟨by omega,fun x hm=>qf (hx x hm)⟩,fun x hm=>(qg (st x hm) (hx x hm)).2.2⟩;have:=qg (st x hm) (hx x hm);exact⟨this.1,this.2.1,(st x hm).fmt⟩
theorem Ga{x:Sx}(g:Gd x)(hc:(cellsOf x.rs).length≤200):Ft x:=by
 obtain⟨hh,hz,hR,hr⟩:=fM g.f;have h1:=lU (n:=0) hh hr x.rs.length (Nat.le_refl _);rw[List.take_length]at h1;have hAL:=AY (lW g.f).1;have h2:=kx (0+(dG x.h x.rs 0 x.rs.length).length);have l1:∀n,(zs n).length=n:=fun n=>by unfold zs;rw[List.length_replicate]
 refine⟨?_,?_⟩
 ·unfold lI aS;rw[List.all_append,List.all_append,h1.1,(jI _).1,(jI _).1];rfl
 ·unfold lI aS;rw[List.length_append,List.length_append,l1,l1];have:=h1.2;omega
end Sr
end Go.Proofs.YtbpednchkndocaaGreatDoor.Av
