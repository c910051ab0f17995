/- Events are read: tcoef.read and tcoef.Take. Events are read: tcoef.Take; blocks are read: blocks.first. Blocks are read: blocks.events. Blocks are read: blocks.Take. Events are read: the document's answer. Events are read: the document's Take. -/
import Derived.Test.YtbpednchkndocaaGreatDoorPq1
import Derived.Test.YtbpednchkndocaaGreatDoorPn4
import Derived.Test.YtbpednchkndocaaGreatDoorPl
set_option linter.unusedVariables false
set_option linter.unusedSimpArgs false
set_option maxRecDepth 100000
set_option maxHeartbeats 64000000
namespace Go.Proofs.YtbpednchkndocaaGreatDoor.Av
namespace Tc
open Go Bt
attribute [local irreducible] aa ACalls
variable {gl:List (Nat×List D)}
theorem wI(s:List UInt8)(p:Nat)(hs:s.length<1000000000000000)(h:p<8*s.length):ACalls (cxg gl) 186 [.ptr 0 0,I 1] [Rd s p] (fun r H=>r = .cH [I (fq s p),I 0]∧H=[Rd s ((p+1:Nat):Int)]):=by
 have:=qB (gl:=gl) s p (by omega) hs (by omega)
 rwa [show pk1 s p=(fq s p,0) by unfold pk1;rw[if_neg (by omega)],show tk1 s p=((p+1:Nat):Int) by unfold tk1;rw[if_neg (by omega)];omega]at this
theorem wH(s:List UInt8)(p:Nat)(hs:s.length<1000000000000000)(h:p=8*s.length):ACalls (cxg gl) 186 [.ptr 0 0,I 1] [Rd s p] (fun r H=>r = .cH [I 0,I 2]∧H=[Rd s p]):=by
 have:=qB (gl:=gl) s p (by omega) hs (by omega)
 rwa [show pk1 s p=(0,2) by unfold pk1;rw[if_pos (by omega)],show tk1 s p=p by unfold tk1;rw[if_pos (by omega)]]at this
def evX(B:List Int):Ev×Int×Nat :=
 if (dB dX (B.map cn) []).2.1≠0 then (ev0,(dB dX (B.map cn) []).2.1,0) else
 if (dB dX (B.map cn) []).1=0 then og (nB ((B.drop 7).take 15)) (B.length-7) else
 if B.length≤(dB dX (B.map cn) []).2.2 then (ev0,2,0) else
 (⟨(lK (dB dX (B.map cn) []).1.toNat).1,(lK (dB dX (B.map cn) []).1.toNat).2.1,((lK (dB dX (B.map cn) []).1.toNat).2.2:Int)*(1-2*B.getD (dB dX (B.map cn) []).2.2 0)⟩,0,(dB dX (B.map cn) []).2.2+1)
def vH(B:List Int):Nat :=
 if (nA B 0 1).2.1≠0 then (nA B 0 1).2.2 else
 if (nA B 0 1).1 = -1 then 7+vI (nB ((B.drop 7).take 15)) (B.length-7) else
 if B.length≤(nA B 0 1).2.2 then (nA B 0 1).2.2 else (nA B 0 1).2.2+1
theorem tQ{B:List Int}(hB:∀b∈B,b=0∨b=1){a e:Int}{c:Nat}(h:nA B 0 1=(a,e,c))(he:e≠0):evX B=(ev0,e,0)∧vH B=c:=by
 obtain⟨h1,h2⟩:=kV 13 0 1 [] jR B hB;rw[h]at h1;simp only at h1;unfold evX vH;rw[←h1,h,if_pos he,if_pos he];exact⟨rfl,rfl⟩
theorem vX{B:List Int}(hB:∀b∈B,b=0∨b=1){c:Nat}(h:nA B 0 1=(-1,0,c)):evX B=og (nB ((B.drop 7).take 15)) (B.length-7)∧vH B=7+vI (nB ((B.drop 7).take 15)) (B.length-7):=by
 obtain⟨h1,h2⟩:=kV 13 0 1 [] jR B hB;rw[h]at h1 h2;simp only at h1 h2;obtain⟨h3,i,h4,h5⟩:=h2 h1.symm;have hi:i=0:=by
  unfold okE at h5;split at h5
  ·assumption
  ·simp at h5
 subst hi;constructor
 ·unfold evX;rw[h4,←h1,if_neg (by simp),if_pos (show ((0:Nat):Int)=0 from rfl)]
 ·unfold vH;rw[h,if_neg (by simp),if_pos rfl]
theorem tT{B:List Int}(hB:∀b∈B,b=0∨b=1){a:Int}{c:Nat}(h:nA B 0 1=(a,0,c))(ha:0≤a):∃(la:Bool) (ru am:Nat),1≤am∧(am:Int)≤dx la ru∧ru≤63∧dD la ru am=a ∧
  evX B=(if B.length≤c then (ev0,2,0) else (⟨la,ru,(am:Int)*(1-2*B.getD c 0)⟩,0,c+1))∧vH B=if B.length≤c then c else c+1:=by
 obtain⟨h1,h2⟩:=kV 13 0 1 [] jR B hB;rw[h]at h1 h2;simp only at h1 h2;obtain⟨h3,i,h4,h5⟩:=h2 h1.symm;have hi:i≠0:=by
  rintro rfl;unfold okE at h5;rw[if_pos rfl,decide_eq_true_eq]at h5;omega
 unfold okE at h5;rw[if_neg hi]at h5;simp only[Bool.and_eq_true,decide_eq_true_eq]at h5;obtain⟨⟨⟨⟨q1,q2⟩,q3⟩,q4⟩,q5⟩:=h5;refine⟨_,_,_,q3,q4,q5,q2,?_,?_⟩
 ·unfold evX;rw[h4,←h1,if_neg (by simp),if_neg (by omega),←h3,Int.toNat_natCast]
 ·unfold vH;rw[h,if_neg (by simp),if_neg (by simp only;omega)]
theorem HA(s:List UInt8)(p k:Nat)(h:p+k<8*s.length):(aG s p).getD k 0=fq s ((p+k:Nat):Int):=by
 unfold aG;rw[List.getD_eq_getElem?_getD,List.getElem?_map,List.getElem?_range (by omega)];rfl
theorem dM(s:List UInt8)(p k:Nat):(aG s p).drop k=aG s (p+k):=by
 apply List.ext_getElem?;intro i;unfold aG;rw[List.getElem?_drop,List.getElem?_map,List.getElem?_map];by_cases h:k+i<8*s.length-p
 ·rw[List.getElem?_range h,List.getElem?_range (by omega)];simp[Nat.add_assoc]
 ·rw[List.getElem?_eq_none (by simp;omega),List.getElem?_eq_none (by simp;omega)];rfl
attribute [local irreducible] dD dx vw nB evX vH mI og vI dX lK fq aG
theorem KJ(s:List UInt8)(p:Nat)(hs:s.length≤1000000)(hp:p≤8*s.length):ACalls (cxg gtc) 317 [.ptr 0 0] [Rd s p]
  (fun r H=>r = .cH [.d (evD (evX (aG s p)).1),I (evX (aG s p)).2.1]∧H=[Rd s ((p+vH (aG s p):Nat):Int)]):=by
 have hB:=fJ s p;have hBl:=dN s p;refine ACalls.en Tryz.func317 Tryz.ntmps317 ?_;repeat (first|refine aa.aF ?_|refine aa.bh true ?_|refine aa.ah ?_|refine aa.ae ?_|refine aa.aB ?_|refine aa.ak ?_|refine aa.aH ?_|refine aa.aD ?_|refine aa.bG ?_|refine aa.au ?_|refine aa.cf ?_|refine aa.bX ?_|refine aa.aC ?_)
 refine aa.weak (env':=[(5,I ((0+1:Nat):Int)),(4,I 0),(2, .ptr 1 0),(0, .ptr 0 0)]) ⟨rfl,rfl,rfl,rfl,trivial⟩ ?_
 refine aa.loop (fun m env H=>∃(k:Nat) (v:Int) (w:List UInt8),m=8*s.length-(p+k)∧p+k≤8*s.length∧mI (13-k) v (k+1) w=true∧nA (aG s (p+k)) v (k+1)=nA (aG s p) 0 1 ∧
  env=[(5,I ((k+1:Nat):Int)),(4,I v),(2, .ptr 1 0),(0, .ptr 0 0)]∧∃cs,cs.length=3∧H=[Rd s ((p+k:Nat):Int), .cells cs]) (8*s.length-p)
  ⟨0,0,[],by simp,by omega,jR,rfl,rfl,_,rfl,rfl⟩ ?_
 rintro m env H ⟨k,v,w,rfl,hk,hag,hm,rfl,cs,hcs,rfl⟩;obtain⟨f,hf⟩:∃f,13-k=f+1:=by
  cases h:13-k with
  |zero=>rw[h]at hag;unfold mI at hag;cases hag
  |succ f=>exact⟨f,rfl⟩
 rw[hf]at hag;unfold mI at hag;simp only[Bool.and_eq_true,decide_eq_true_eq]at hag;obtain⟨⟨⟨hn12,hv0⟩,hv1⟩,hag⟩:=hag
 match cs,hcs with
 |[c0,c1,c2],_ =>
 rcases Nat.lt_or_ge (p+k) (8*s.length)with hlt|hge
 ·rw[jd s _ hlt]at hm;have t1:=wI (gl:=gtc) s (p+k) (by omega) hlt;have hb:=oV s ((p+k:Nat):Int);have hb01:fq s ((p+k:Nat):Int)=0∨fq s ((p+k:Nat):Int)=1:=by omega
  rw[nA]at hm;generalize fq s ((p+k:Nat):Int)=b at *;have hagb:=List.all_eq_true.1 hag b (by rcases hb01 with h|h<;>simp[h]);have eo:=FE v b hv0 hb01;unfold Gf at hm hagb;by_cases hesc:k+1=7∧2*v+b=3
  ·rw[if_pos hesc]at hm;simp only at hm;obtain⟨x1,x2⟩:=vX hB hm.symm;have hk6:k=6:=by omega
   have es:=HL (gl:=gtc) s (p+7) hs (by omega);rw[←dM,show 8*s.length-(p+7)=(aG s p).length-7 by omega]at es;rw[x1,x2];have e6:p+k+1=p+7:=by omega
   have e7:p+7+vI (nB (((aG s p).drop 7).take 15)) ((aG s p).length-7)=p+(7+vI (nB (((aG s p).drop 7).take 15)) ((aG s p).length-7)):=by omega
   rw[e6]at t1;rw[e7]at es;have eo3:=eo;rw[hesc.2]at eo3;repeat' (first|refine aa.aF ?_|(apply aa.q true;rfl;rfl;rfl;rfl;first|exact True.intro|omega|(simp only[tn,Int.reduceToNat];omega)|(simp only[];omega)|(omega))|refine aa.aj [0] (t1) ?_|refine aa.aj [0] (es) ?_|refine aa.ah ?_|refine aa.ae ?_|refine aa.aB ?_|refine aa.ak ?_|refine aa.aH ?_|refine aa.aD ?_|refine aa.bG ?_|refine aa.au ?_|refine aa.cf ?_|refine aa.bX ?_|refine aa.aC ?_|intro _|(apply aa.gD;rfl;rfl;rfl)|refine aa.aA ?_|refine aa.aP ?_|refine aa.aJ ?_)
   all_goals exact Tn
  ·rw[if_neg hesc]at hm hagb;have fc:=Ql (2*v+b) ((k+1:Nat):Int) (by omega) (by omega);rw[←eo]at fc;have hvb:2*v+b≤10001∧0≤2*v+b:=by omega
   have esym:=eo;generalize hfe:vw (2*v+b) ((k+1:Nat):Int)=fr at *;obtain⟨a,may⟩:=fr;rw[eo,hfe]at fc;rw[←eo]at fc;simp only at hm hagb fc;by_cases ha:0≤a
   ·rw[if_pos ha]at hm hagb;simp only at hm hagb;obtain⟨la,ru,am,q1,q2,q3,q4,x1,x2⟩:=tT hB hm.symm ha;have ec:=NK (gl:=gtc) la ru am q3 ⟨by omega,q2⟩;rw[q4]at ec;have hmb:=iZ la ru;rw[hBl]at x1 x2;rcases Nat.lt_or_ge (p+k+1) (8*s.length)with hl2|hg2
    ·have t2:=wI (gl:=gtc) s (p+k+1) (by omega) hl2;rw[if_neg (by omega)]at x1 x2;rw[HA s p (k+1) (by omega),show p+(k+1)=p+k+1 by omega]at x1;have hb2:=oV s ((p+k+1:Nat):Int);rw[x1,x2];generalize fq s ((p+k+1:Nat):Int)=b2 at *;have hmul : -12≤(am:Int)*(1-2*b2)∧(am:Int)*(1-2*b2)≤12:=by
      rcases (show b2=0∨b2=1 by omega)with h|h
      ·subst h;omega
      ·subst h;omega
     repeat' (first|refine aa.aF ?_|(apply aa.q true;rfl;rfl;rfl;rfl;first|exact True.intro|omega|(simp only[tn,Int.reduceToNat];omega)|(omega))|refine aa.aj [0] (t1) ?_|refine aa.aj [0] (t2) ?_|refine aa.av (fc) ?_|refine aa.av (ec) ?_|refine aa.ah ?_|refine aa.ae ?_|refine aa.aB ?_|refine aa.ak ?_|refine aa.aH ?_|refine aa.aD ?_|refine aa.bG ?_|refine aa.au ?_|refine aa.cf ?_|refine aa.bX ?_|refine aa.aC ?_|intro _|(apply aa.gD;rfl;rfl;rfl)|refine aa.aA ?_|refine aa.aP ?_|refine aa.aJ ?_)
     all_goals exact Tn
    ·have t2:=wH (gl:=gtc) s (p+k+1) (by omega) (by omega);rw[if_pos (by omega)]at x1 x2;rw[x1,x2];repeat' (first|refine aa.aF ?_|(apply aa.q true;rfl;rfl;rfl;rfl;first|exact True.intro|omega|(simp only[tn,Int.reduceToNat];omega)|(omega))|refine aa.aj [0] (t1) ?_|refine aa.aj [0] (t2) ?_|refine aa.av (fc) ?_|refine aa.ah ?_|refine aa.ae ?_|refine aa.aB ?_|refine aa.ak ?_|refine aa.aH ?_|refine aa.aD ?_|refine aa.bG ?_|refine aa.au ?_|refine aa.cf ?_|refine aa.bX ?_|refine aa.aC ?_|intro _|(apply aa.gD;rfl;rfl;rfl)|refine aa.aA ?_|refine aa.aP ?_|refine aa.aJ ?_)
     all_goals exact Tn
   ·rw[if_neg ha]at hm hagb;cases may with
    |false =>
     simp only[if_true]at hm;obtain⟨x1,x2⟩:=tQ hB hm.symm (by decide);rw[x1,x2];repeat' (first|refine aa.aF ?_|(apply aa.q true;rfl;rfl;rfl;rfl;first|exact True.intro|omega|(simp only[tn,Int.reduceToNat];omega)|(omega))|refine aa.aj [0] (t1) ?_|refine aa.av (fc) ?_|refine aa.ah ?_|refine aa.ae ?_|refine aa.aB ?_|refine aa.ak ?_|refine aa.aH ?_|refine aa.aD ?_|refine aa.bG ?_|refine aa.au ?_|refine aa.cf ?_|refine aa.bX ?_|refine aa.aC ?_|intro _|(apply aa.gD;rfl;rfl;rfl)|refine aa.aA ?_|refine aa.aP ?_|refine aa.aJ ?_)
     all_goals exact Tn
    | true =>
     simp only[Bool.true_eq_false,if_false]at hm hagb;cases hr:jo dX w (cn b)with
     |done i c'=>rw[hr]at hagb;cases hagb
     |fail=>rw[hr]at hagb;cases hagb
     | next w' =>
      rw[hr]at hagb;simp only at hagb;have hk12:k+2≤12:=by
       cases f with
       |zero=>unfold mI at hagb;cases hagb
       |succ f =>
        unfold mI at hagb;simp only[Bool.and_eq_true,decide_eq_true_eq]at hagb;exact hagb.1.1.1
      have hf2:13-(k+1)=f:=by omega
      repeat' (first|refine aa.aF ?_|(apply aa.q true;rfl;rfl;rfl;rfl;first|exact True.intro|omega|(simp only[tn,Int.reduceToNat];omega)|(omega))|refine aa.aj [0] (t1) ?_|refine aa.av (fc) ?_|refine aa.ah ?_|refine aa.ae ?_|refine aa.aB ?_|refine aa.ak ?_|refine aa.aH ?_|refine aa.aD ?_|refine aa.bG ?_|refine aa.au ?_|refine aa.cf ?_|refine aa.bX ?_|refine aa.aC ?_|intro _|(apply aa.gD;rfl;rfl;rfl)|refine aa.aA ?_|refine aa.aP ?_|refine aa.aJ ?_)
      all_goals first
       |exact aa.round [(5,I ((k+1+1:Nat):Int)),(4,I (2*v+b)),(2, .ptr 1 0),(0, .ptr 0 0)] (8*s.length-(p+(k+1))) (by omega) ⟨rfl,congrArg I eo,rfl,rfl,trivial⟩ ⟨k+1,2*v+b,w',rfl,by omega,by rw[hf2];exact hagb,hm,rfl,_,rfl,rfl⟩
       |omega
 ·have hpk:p+k=8*s.length:=by omega
  rw[lX s _ hge]at hm;have hm2:nA (aG s p) 0 1=(0,2,k):=by rw[←hm];rfl
  obtain⟨x1,x2⟩:=tQ hB hm2 (by decide);have t1:=wH (gl:=gtc) s (p+k) (by omega) hpk;rw[x1,x2];repeat' (first|refine aa.aF ?_|refine aa.bh true ?_|refine aa.aj [0] (t1) ?_|refine aa.ah ?_|refine aa.ae ?_|refine aa.aB ?_|refine aa.ak ?_|refine aa.aH ?_|refine aa.aD ?_|refine aa.bG ?_|refine aa.au ?_|refine aa.cf ?_|refine aa.bX ?_|refine aa.aC ?_|intro _|(apply aa.gD;rfl;rfl;rfl)|refine aa.aA ?_|refine aa.aP ?_|refine aa.aJ ?_)
  all_goals exact Tn
end Tc
namespace Tc
open Go Bt
attribute [local irreducible] aa ACalls
variable {gl:List (Nat×List D)}
theorem HM(v:Int)(n:Nat):((og v n).2.1=0→(og v n).2.2=7+vI v n)∧((og v n).2.1≠0→(og v n).2.2=0∧(og v n).1=ev0):=by
 unfold og vI;split
 ·exact⟨fun h=>(by cases h),fun _=>⟨rfl,rfl⟩⟩
 ·split
  ·exact⟨fun h=>(by cases h),fun _=>⟨rfl,rfl⟩⟩
  ·exact⟨fun _=>rfl,fun h=>absurd rfl h⟩
theorem CZ{B:List Int}(hB:∀b∈B,b=0∨b=1):((evX B).2.1=0→(evX B).2.2=vH B)∧((evX B).2.1≠0→(evX B).2.2=0∧(evX B).1=ev0):=by
 rcases hx:nA B 0 1 with⟨a,e,c⟩;by_cases he:e=0
 ·subst he;by_cases ha:0≤a
  ·obtain⟨la,ru,am,_,_,_,_,x1,x2⟩:=tT hB hx ha;rw[x1,x2];split
   ·exact⟨fun h=>(by cases h),fun _=>⟨rfl,rfl⟩⟩
   ·exact⟨fun _=>rfl,fun h=>absurd rfl h⟩
  ·obtain⟨h1,h2⟩:=kV 13 0 1 [] jR B hB;rw[hx]at h1 h2;simp only at h1 h2;obtain⟨_,i,_,h5⟩:=h2 h1.symm;have ha1:a = -1:=by
    unfold okE at h5;split at h5
    ·exact of_decide_eq_true h5
    ·simp only[Bool.and_eq_true,decide_eq_true_eq]at h5;omega
   subst ha1;obtain⟨x1,x2⟩:=vX hB hx;rw[x1,x2];exact HM _ _
 ·obtain⟨x1,x2⟩:=tQ hB hx he;rw[x1];exact⟨fun h=>absurd h he,fun _=>⟨rfl,rfl⟩⟩
theorem Fw(s:List UInt8)(p:Nat)(hp:p≤8*s.length)(h0:(evX (aG s p)).2.1=0):p+(evX (aG s p)).2.2≤8*s.length:=by
 have hB:=fJ s p;have hBl:=dN s p;rcases hx:nA (aG s p) 0 1 with⟨a,e,c⟩;by_cases he:e=0
 ·subst he;by_cases ha:0≤a
  ·obtain⟨la,ru,am,_,_,_,_,x1,x2⟩:=tT hB hx ha;rw[x1]at h0 ⊢;split at h0
   ·cases h0
   ·rename_i hc;rw[if_neg hc];simp only;omega
  ·obtain⟨h1,h2⟩:=kV 13 0 1 [] jR _ hB;rw[hx]at h1 h2;simp only at h1 h2;obtain⟨_,i,_,h5⟩:=h2 h1.symm;have ha1:a = -1:=by
    unfold okE at h5;split at h5
    ·exact of_decide_eq_true h5
    ·simp only[Bool.and_eq_true,decide_eq_true_eq]at h5;omega
   subst ha1;obtain⟨x1,x2⟩:=vX hB hx;rw[x1]at h0 ⊢;unfold og at h0 ⊢;split at h0
   ·cases h0
   ·rename_i hc;rw[if_neg hc];split at h0
    ·cases h0
    ·rename_i hc2;rw[if_neg hc2];simp only;omega
 ·obtain⟨x1,x2⟩:=tQ hB hx he;rw[x1]at h0;exact absurd h0 he
attribute [local irreducible] evX vH aG
theorem Ir(s:List UInt8)(p:Nat)(hs:s.length≤1000000)(hp:p≤8*s.length):ACalls (cxg gtc) 315 [.ptr 0 0] [Rd s p]
  (fun r H=>r = .cH [.d (evD (evX (aG s p)).1),I (evX (aG s p)).2.1]∧H=[Rd s ((p+(evX (aG s p)).2.2:Nat):Int)]):=by
 have rd:=KJ s p hs hp;have a0:=ui (gl:=gtc) s p;obtain⟨u1,u2⟩:=CZ (fJ s p);by_cases h0:(evX (aG s p)).2.1=0
 ·have e:=u1 h0;rw[←e]at rd;generalize evX (aG s p)=x at *;obtain⟨ev,er,c⟩:=x;simp only at h0 rd;subst h0;refine ACalls.en Tryz.func315 Tryz.ntmps315 ?_;repeat' (first|refine aa.aF ?_|refine aa.bh true ?_|refine aa.aj [0] (a0) ?_|refine aa.aj [0] (rd) ?_|refine aa.ak ?_|refine aa.aH ?_|refine aa.aD ?_|refine aa.aQ ?_|intro _|refine aa.aA ?_)
  all_goals exact Tn
 ·obtain⟨e1,e2⟩:=u2 h0;have sk:=gI (gl:=gtc) s ((p+vH (aG s p):Nat):Int) p (by omega) ⟨by omega,by omega⟩;generalize evX (aG s p)=x at *;generalize vH (aG s p)=q at *;obtain⟨ev,er,c⟩:=x;simp only at h0 rd e1 e2;subst e1;refine ACalls.en Tryz.func315 Tryz.ntmps315 ?_;repeat' (first|refine aa.aF ?_|refine aa.bh true ?_|refine aa.aj [0] (a0) ?_|refine aa.aj [0] (rd) ?_|refine aa.aj [0] (sk) ?_|refine aa.ak ?_|refine aa.aH ?_|refine aa.aD ?_|refine aa.aQ ?_|intro _|refine aa.aA ?_)
  all_goals exact Tn
def dcX(v:Int)(n:Nat):Int×Int×Nat:=if n<8 then (0,2,0) else if v=0∨v=128 then (0,7,8) else if v=255 then (128,0,8) else (v,0,8)
attribute [local irreducible] nB
theorem NJ(s:List UInt8)(p:Nat)(hs:s.length≤1000000)(hp:p≤8*s.length):ACalls (cxg gl) 309 [.ptr 0 0] [Rd s p]
  (fun r H=>r = .cH [I (dcX (nB ((aG s p).take 8)) (8*s.length-p)).1,I (dcX (nB ((aG s p).take 8)) (8*s.length-p)).2.1]∧H=[Rd s ((p+(dcX (nB ((aG s p).take 8)) (8*s.length-p)).2.2:Nat):Int)]):=by
 have tk:=jg (gl:=gl) s p 8 (by omega) hp (by omega);unfold pkN tkN at tk;unfold dcX;by_cases h:8*s.length<p+8
 ·rw[if_pos h,if_pos h]at tk;rw[if_pos (by omega)];refine ACalls.en Tryz.func309 Tryz.ntmps309 ?_;repeat' (first|refine aa.aF ?_|refine aa.bh true ?_|refine aa.aj [0] (tk) ?_|refine aa.ah ?_|refine aa.ae ?_|refine aa.aB ?_|refine aa.ak ?_|intro _|refine aa.aA ?_)
  all_goals exact Tn
 ·rw[if_neg h,if_neg h]at tk;rw[if_neg (by omega)];generalize nB ((aG s p).take 8)=v at *;by_cases h0:v=0∨v=128
  ·rw[if_pos h0];rcases h0 with rfl|rfl;all_goals
    refine ACalls.en Tryz.func309 Tryz.ntmps309 ?_;repeat' (first|refine aa.aF ?_|refine aa.bh true ?_|refine aa.aj [0] (tk) ?_|refine aa.ah ?_|refine aa.ae ?_|refine aa.aB ?_|refine aa.ak ?_|intro _|refine aa.aA ?_)
    all_goals exact Tn
  ·rw[if_neg h0];by_cases h1:v=255
   ·rw[if_pos h1];subst h1;refine ACalls.en Tryz.func309 Tryz.ntmps309 ?_;repeat' (first|refine aa.aF ?_|refine aa.bh true ?_|refine aa.aj [0] (tk) ?_|refine aa.ah ?_|refine aa.ae ?_|refine aa.aB ?_|refine aa.ak ?_|intro _|refine aa.aA ?_)
    all_goals exact Tn
   ·rw[if_neg h1];refine ACalls.en Tryz.func309 Tryz.ntmps309 ?_;repeat' (first|refine aa.aF ?_|refine aa.bh true ?_|refine aa.aj [0] (tk) ?_|refine aa.ah ?_|refine aa.ae ?_|refine aa.aB ?_|refine aa.ak ?_|intro _|refine aa.aA ?_)
    all_goals exact Tn
end Tc
namespace Tc
open Go Bt
attribute [local irreducible] aa ACalls
variable {gl:List (Nat×List D)}
theorem NN{B:List Int}(hB:∀b∈B,b=0∨b=1)(h0:(evX B).2.1=0):0≤(evX B).1.run∧(evX B).1.run≤63:=by
 rcases hx:nA B 0 1 with⟨a,e,c⟩;by_cases he:e=0
 ·subst he;by_cases ha:0≤a
  ·obtain⟨la,ru,am,_,_,q3,_,x1,x2⟩:=tT hB hx ha;rw[x1]at h0 ⊢;split at h0
   ·cases h0
   ·rename_i hc;rw[if_neg hc];simp only;omega
  ·obtain⟨h1,h2⟩:=kV 13 0 1 [] jR _ hB;rw[hx]at h1 h2;simp only at h1 h2;obtain⟨_,i,_,h5⟩:=h2 h1.symm;have ha1:a = -1:=by
    unfold okE at h5;split at h5
    ·exact of_decide_eq_true h5
    ·simp only[Bool.and_eq_true,decide_eq_true_eq]at h5;omega
   subst ha1;obtain⟨x1,x2⟩:=vX hB hx;rw[x1]at h0 ⊢;unfold og at h0 ⊢;split at h0
   ·cases h0
   ·rename_i hc;rw[if_neg hc];split at h0
    ·cases h0
    ·rename_i hc2;rw[if_neg hc2];unfold kR at hc2;simp only[Bool.or_eq_true,not_or,Bool.not_eq_true',Bool.not_eq_false]at hc2;exact (of_decide_eq_true (show decide _=true from hc2.1)).1
 ·obtain⟨x1,x2⟩:=tQ hB hx he;rw[x1]at h0;exact absurd h0 he
def gh:Nat→List Int→Int→List Ev×Int×Nat
 |0,_,_=>([],7,0)
 |f+1,B,a=>if (evX B).2.1≠0 then ([],(evX B).2.1,0) else
  if 64<a+((evX B).1.run+1) then ([],7,(evX B).2.2) else
  if (evX B).1.last=true then ([(evX B).1],0,(evX B).2.2) else
  if (gh f (B.drop (evX B).2.2) (a+((evX B).1.run+1))).2.1≠0 then ([],(gh f (B.drop (evX B).2.2) (a+((evX B).1.run+1))).2.1,(evX B).2.2+(gh f (B.drop (evX B).2.2) (a+((evX B).1.run+1))).2.2) else
  ((evX B).1::(gh f (B.drop (evX B).2.2) (a+((evX B).1.run+1))).1,0,(evX B).2.2+(gh f (B.drop (evX B).2.2) (a+((evX B).1.run+1))).2.2)
def ED(acc:List Ev)(q:Nat)(y:List Ev×Int×Nat):List Ev×Int×Nat:=if y.2.1≠0 then ([],y.2.1,q+y.2.2) else (acc++y.1,0,q+y.2.2)
theorem QE(y:List Ev×Int×Nat)(h:y.2.1≠0→y.1=[]):ED [] 0 y=y:=by
 unfold ED;split
 ·rename_i h1;obtain⟨l,e,c⟩:=y;simp only at h h1 ⊢;rw[h h1,Nat.zero_add]
 ·rename_i h1;obtain⟨l,e,c⟩:=y;simp only[ne_eq,Decidable.not_not]at h1;subst h1;simp
theorem KH:∀(f:Nat) (B:List Int) (a:Int),(gh f B a).2.1≠0→(gh f B a).1=[]
 |0,_,_,_=>rfl
 | f + 1, B, a, h => by
  rw[gh]at h ⊢;split
  ·rfl
  ·rename_i h1;rw[if_neg h1]at h;split
   ·rfl
   ·rename_i h2;rw[if_neg h2]at h;split
    ·rename_i h3;rw[if_pos h3]at h;exact absurd rfl h
    ·rename_i h3;rw[if_neg h3]at h;split
     ·rfl
     ·rename_i h4;rw[if_neg h4]at h;exact absurd rfl h
theorem HY{acc:List Ev}{q f:Nat}{B:List Int}{a:Int}(h0:(evX B).2.1=0)(h1:¬64<a+((evX B).1.run+1))(h2:(evX B).1.last=false):
  ED acc q (gh (f+1) B a)=ED (acc++[(evX B).1]) (q+(evX B).2.2) (gh f (B.drop (evX B).2.2) (a+((evX B).1.run+1))):=by
 rw[gh,if_neg (by simpa using h0),if_neg h1,if_neg (by rw[h2];decide)];unfold ED;by_cases h:(gh f (B.drop (evX B).2.2) (a+((evX B).1.run+1))).2.1≠0
 ·rw[if_pos h,if_pos h];simp only;rw[if_pos h,Nat.add_assoc]
 ·rw[if_neg h,if_neg h];simp[Nat.add_assoc]
theorem CX(l:List Ev)(e:Ev):bS (l++[e])=bS l++[evD e]:=by simp[bS]
attribute [local irreducible] evX aG gh bS
theorem KL(s:List UInt8)(p:Nat)(a0:Int)(hs:s.length≤1000000)(hp:p≤8*s.length)(ha0:0≤a0∧a0≤1):ACalls (cxg gtc) 310 [.ptr 0 0,I a0] [Rd s p]
  (fun r H=>r = .cH [.d (.sl 3 (bS (gh 66 (aG s p) a0).1)),I (gh 66 (aG s p) a0).2.1]∧H=[Rd s ((p+(gh 66 (aG s p) a0).2.2:Nat):Int)]):=by
 have e00:bS []=[]:=by unfold bS;rfl
 have hc0:=QE (gh 66 (aG s p) a0) (KH _ _ _);generalize hR:gh 66 (aG s p) a0=R at *;refine ACalls.en Tryz.func310 Tryz.ntmps310 ?_;repeat (first|refine aa.aF ?_|refine aa.bh true ?_|refine aa.ah ?_|refine aa.ae ?_|refine aa.aB ?_|refine aa.ak ?_|refine aa.aH ?_|refine aa.aD ?_|refine aa.aQ ?_|refine aa.aX ?_|refine aa.Fc ?_|apply aa.label|refine aa.CL 6 235 3 ?_|refine aa.uG 6 ?_)
 refine aa.weak (env':=[(6, .own 3 (bS []) 1),(1,I a0),(0, .ptr 0 0)]) ⟨by rw[e00];rfl,rfl,rfl,trivial⟩ ?_
 refine aa.loop (fun m env H=>∃(f:Nat) (acc:List Ev) (q:Nat) (a:Int),m=f∧p+q≤8*s.length∧(0≤a∧a≤64∧65-a<f)∧(acc.length:Int)≤a∧ED acc q (gh f (aG s (p+q)) a)=R ∧
  env=[(6, .own 3 (bS acc) 1),(1,I a),(0, .ptr 0 0)]∧H=[Rd s ((p+q:Nat):Int), .front 235 3 (bS acc).length]) 66
  ⟨66,[],0,a0,rfl,by omega,by omega,by simp;omega,by rw[Nat.add_zero,hR];exact hc0,rfl,by first|(rw[e00];done)|(rw[e00];rfl)⟩ ?_
 rintro m env H ⟨f,acc,q,a,rfl,hq,ha,hacc,hm,rfl,rfl⟩;obtain⟨f,rfl⟩:∃g,m=g+1:=⟨m-1,by omega⟩;have tk:=Ir s (p+q) hs hq;have hB:=fJ s (p+q);have hal:=fS acc;by_cases h0:(evX (aG s (p+q))).2.1=0
 ·have hrun:=NN hB h0;have hle:=Fw s (p+q) hq h0;by_cases h1:64<a+((evX (aG s (p+q))).1.run+1)
  ·have hx:gh (f+1) (aG s (p+q)) a=([],7,(evX (aG s (p+q))).2.2):=by unfold gh;rw[if_neg (by simpa using h0),if_pos h1]
   rw[hx]at hm;have hm2:R=([],7,q+(evX (aG s (p+q))).2.2):=by rw[←hm];rfl
   rw[hm2];generalize evX (aG s (p+q))=x at *;obtain⟨⟨la,ru,le⟩,er,c⟩:=x;simp only at h0 h1 hrun tk;subst h0;rw[e00,←Nat.add_assoc];repeat' (first|refine aa.aF ?_|refine aa.bh true ?_|refine aa.aj [0] (tk) ?_|refine aa.ah ?_|refine aa.ae ?_|refine aa.aB ?_|refine aa.ak ?_|refine aa.aH ?_|refine aa.aD ?_|refine aa.aQ ?_|refine aa.aX ?_|(apply aa.OJ (.cH [.d (.sl 3 []),I 7]);rfl;exact cJ.cH ⟨cJ.d (bW.aU 3),cJ.refl _,trivial⟩;rfl;rfl;rfl)|intro _|refine aa.aJ ?_)
   all_goals exact Tn
  ·cases h2:(evX (aG s (p+q))).1.last with
   |true =>
    have hx:gh (f+1) (aG s (p+q)) a=([(evX (aG s (p+q))).1],0,(evX (aG s (p+q))).2.2):=by unfold gh;rw[if_neg (by simpa using h0),if_neg h1,if_pos h2]
    rw[hx]at hm;have hm2:R=(acc++[(evX (aG s (p+q))).1],0,q+(evX (aG s (p+q))).2.2):=by rw[←hm];rfl
    rw[hm2];have eA:=CX acc (evX (aG s (p+q))).1;generalize evX (aG s (p+q))=x at *;obtain⟨⟨la,ru,le⟩,er,c⟩:=x;simp only at h0 h1 h2 hrun tk eA;subst h0;subst h2;rw[←Nat.add_assoc];simp only;rw[eA];repeat' (first|refine aa.aF ?_|(apply aa.append;(iterate 11 rfl);(first|rfl|(simp only[List.length_append,List.length_map,List.length_cons,List.length_nil];omega));(first|(simp only[List.length_append,List.length_map,List.length_cons,List.length_nil];omega)|(rw[hal];omega));simp only[List.set_cons_zero,List.set_cons_succ])|(apply aa.q true;rfl;rfl;rfl;rfl;first|exact True.intro|omega|(simp only[tn,Int.reduceToNat];omega)|(rw[hal];omega))|refine aa.aj [0] (tk) ?_|refine aa.ah ?_|refine aa.ae ?_|refine aa.aB ?_|refine aa.ak ?_|refine aa.aH ?_|refine aa.aD ?_|refine aa.aQ ?_|refine aa.aX ?_|(apply aa.nP (.cH [.d (.sl 3 (bS acc++[evD ⟨true,ru,le⟩])),I 0]);rfl;exact cJ.cH ⟨cJ.own _ _ _,cJ.refl _,trivial⟩;rfl;rfl;rfl)|intro _|refine aa.aJ ?_)
    all_goals exact Tn
   | false =>
    rw[HY h0 h1 h2,dM,Nat.add_assoc]at hm;have eA:=CX acc (evX (aG s (p+q))).1;generalize evX (aG s (p+q))=x at *;obtain⟨⟨la,ru,le⟩,er,c⟩:=x;simp only at h0 h1 h2 hrun tk eA hm hle;subst h0;subst h2;rw[Nat.add_assoc]at tk;repeat' (first|refine aa.aF ?_|(apply aa.append;(iterate 11 rfl);(first|rfl|(simp only[List.length_append,List.length_map,List.length_cons,List.length_nil];omega));(first|(simp only[List.length_append,List.length_map,List.length_cons,List.length_nil];omega)|(rw[hal];omega));simp only[List.set_cons_zero,List.set_cons_succ])|(apply aa.q true;rfl;rfl;rfl;rfl;first|exact True.intro|omega|(simp only[tn,Int.reduceToNat];omega)|(rw[hal];omega))|refine aa.aj [0] (tk) ?_|refine aa.ah ?_|refine aa.ae ?_|refine aa.aB ?_|refine aa.ak ?_|refine aa.aH ?_|refine aa.aD ?_|refine aa.aQ ?_|refine aa.aX ?_|intro _|refine aa.aJ ?_)
    all_goals first
     |exact aa.jr 2 [(6, .own 3 (bS (acc++[⟨false,ru,le⟩])) 1),(1,I (a+(ru+1))),(0, .ptr 0 0)] f (by omega) rfl rfl rfl rfl ⟨by rw[eA];rfl,rfl,rfl,trivial⟩ ⟨f,acc++[⟨false,ru,le⟩],q+c,a+(ru+1),rfl,by omega,by omega,by rw[List.length_append];simp;omega,hm,rfl,by first|(rw[eA];done)|(rw[eA];rfl)⟩
     |omega
 ·have hx:gh (f+1) (aG s (p+q)) a=([],(evX (aG s (p+q))).2.1,0):=by unfold gh;rw[if_pos h0]
  obtain⟨u1,u2⟩:=(CZ hB).2 h0;rw[hx]at hm;have hm2:R=([],(evX (aG s (p+q))).2.1,q+0):=by rw[←hm];unfold ED;rw[if_pos h0]
  rw[hm2];generalize evX (aG s (p+q))=x at *;obtain⟨⟨la,ru,le⟩,er,c⟩:=x;simp only at h0 tk u1;subst u1;simp only[Nat.add_zero]at tk ⊢;rw[e00];repeat' (first|refine aa.aF ?_|refine aa.bh true ?_|refine aa.aj [0] (tk) ?_|refine aa.ah ?_|refine aa.ae ?_|refine aa.aB ?_|refine aa.ak ?_|refine aa.aH ?_|refine aa.aD ?_|refine aa.aQ ?_|refine aa.aX ?_|(apply aa.OJ (.cH [.d (.sl 3 []),I er]);rfl;exact cJ.cH ⟨cJ.d (bW.aU 3),cJ.refl _,trivial⟩;rfl;rfl;rfl)|intro _|refine aa.aJ ?_)
  all_goals exact Tn
end Tc
namespace Tc
open Go Bt Bl
attribute [local irreducible] aa ACalls
variable {gl:List (Nat×List D)}
def dc0(intra:Bool)(B:List Int):Int×Int×Nat:=if intra=true then dcX (nB (B.take 8)) B.length else (0,0,0)
def blX(intra coded:Bool)(B:List Int):Int×List Ev×Int×Nat :=
  if (dc0 intra B).2.1≠0 then (0,[],(dc0 intra B).2.1,0) else
  if coded=true then
    (if (gh 66 (B.drop (dc0 intra B).2.2) (frm intra : Nat)).2.1 ≠ 0 then (0, [], (gh 66 (B.drop (dc0 intra B).2.2) (frm intra : Nat)).2.1, 0)
     else ((dc0 intra B).1,(gh 66 (B.drop (dc0 intra B).2.2) (frm intra:Nat)).1,0,(dc0 intra B).2.2+(gh 66 (B.drop (dc0 intra B).2.2) (frm intra:Nat)).2.2))
  else ((dc0 intra B).1,[],0,(dc0 intra B).2.2)
theorem KY(v:Int)(n:Nat):(dcX v n).2.2≤n:=by
 unfold dcX;split
 ·simp
 ·split
  ·simp only;omega
  ·split<;>(simp only;omega)
theorem AZ:∀(f:Nat) (s:List UInt8) (p:Nat) (a:Int),p≤8*s.length→p+(gh f (aG s p) a).2.2≤8*s.length
 |0,s,p,a,h=>by simp[gh];exact h
 | f + 1, s, p, a, h => by
  rw[gh];by_cases h0:(evX (aG s p)).2.1=0
  ·have hle:=Fw s p h h0;rw[if_neg (by simpa using h0)];have ih:=AZ f s (p+(evX (aG s p)).2.2) (a+((evX (aG s p)).1.run+1)) hle;rw[←dM]at ih;split
   ·exact hle
   ·split
    ·exact hle
    ·split<;>(simp only;omega)
  ·rw[if_pos h0];simpa using h
theorem Qj(b:Bool):(0:Int)≤(frm b:Nat)∧((frm b:Nat):Int)≤1:=by cases b<;>decide
attribute [local irreducible] gh dcX nB aG bS frm
theorem Ly(s:List UInt8)(p:Nat)(intra coded:Bool)(hs:s.length≤1000000)(hp:p≤8*s.length):ACalls (cxg gtc) 296 [.ptr 0 0,B intra,B coded] [Rd s p]
  (fun r H=>r = .cH [I (blX intra coded (aG s p)).1, .d (.sl 3 (bS (blX intra coded (aG s p)).2.1)),I (blX intra coded (aG s p)).2.2.1]∧H=[Rd s ((p+(blX intra coded (aG s p)).2.2.2:Nat):Int)]):=by
 have e00:bS []=[]:=by unfold bS;rfl
 have a0:=ui (gl:=gtc) s p;have fr:=Kw (gl:=gtc) intra;have hfb:=Qj intra;have hBl:=dN s p;have fc:=NJ (gl:=gtc) s p hs hp;rw[←hBl]at fc;have hdl:=KY (nB ((aG s p).take 8)) (aG s p).length;have ec:=fun q hq=>KL s (p+q) (frm intra:Nat) hs hq hfb
 have hel:=fun q hq=>AZ 66 s (p+q) (frm intra:Nat) hq
 unfold blX dc0;cases intra with
 | true =>
  simp only[if_true];generalize dcX (nB ((aG s p).take 8)) (aG s p).length=d at *;obtain⟨dc,de,dn⟩:=d;simp only at fc hdl ⊢;by_cases hd:de=0
  ·subst hd;rw[if_neg (by simp)];cases coded with
   | true =>
    simp only[if_true];have ec1:=ec dn (by omega);have hel1:=hel dn (by omega);rw[←dM]at ec1 hel1;generalize gh 66 ((aG s p).drop dn) (frm true:Nat)=y at *;obtain⟨l,e,c⟩:=y;simp only at ec1 hel1 ⊢;by_cases he:e=0
    ·subst he;rw[if_neg (by simp)];simp only;rw[←Nat.add_assoc];refine ACalls.en Tryz.func296 Tryz.ntmps296 ?_;repeat' (first|refine aa.aF ?_|refine aa.bh true ?_|refine aa.aj [0] (a0) ?_|refine aa.aj [0] (fc) ?_|refine aa.aj [0] (ec1) ?_|refine aa.av (fr) ?_|refine aa.aB ?_|refine aa.ak ?_|refine aa.au ?_|refine aa.bg ?_|refine aa.aQ ?_|refine aa.aC ?_|intro _|refine aa.aA ?_)
     all_goals exact Tn
    ·rw[if_pos he];simp only;rw[e00];have sk:=gI (gl:=gtc) s ((p+dn+c:Nat):Int) p (by omega) ⟨by omega,by omega⟩;refine ACalls.en Tryz.func296 Tryz.ntmps296 ?_;repeat' (first|refine aa.aF ?_|refine aa.bh true ?_|refine aa.aj [0] (a0) ?_|refine aa.aj [0] (fc) ?_|refine aa.aj [0] (ec1) ?_|refine aa.aj [0] (sk) ?_|refine aa.av (fr) ?_|refine aa.aB ?_|refine aa.ak ?_|refine aa.au ?_|refine aa.bg ?_|refine aa.aQ ?_|refine aa.aC ?_|(apply aa.nP (.cH [I 0, .d (.sl 3 []),I e]);rfl;exact cJ.cH ⟨cJ.refl _,cJ.d (bW.aU 3),cJ.refl _,trivial⟩;rfl;rfl;rfl)|intro _|refine aa.aA ?_)
     all_goals exact Tn
   |false =>
    simp only[Bool.false_eq_true,if_false];rw[e00];refine ACalls.en Tryz.func296 Tryz.ntmps296 ?_;repeat' (first|refine aa.aF ?_|refine aa.bh true ?_|refine aa.aj [0] (a0) ?_|refine aa.aj [0] (fc) ?_|refine aa.aB ?_|refine aa.ak ?_|refine aa.au ?_|refine aa.bg ?_|refine aa.aQ ?_|refine aa.aC ?_|(apply aa.nP (.cH [I dc, .d (.sl 3 []),I 0]);rfl;exact cJ.cH ⟨cJ.refl _,cJ.d (bW.aU 3),cJ.refl _,trivial⟩;rfl;rfl;rfl)|intro _|refine aa.aA ?_)
    all_goals exact Tn
  ·rw[if_pos hd];simp only;rw[e00];have sk:=gI (gl:=gtc) s ((p+dn:Nat):Int) p (by omega) ⟨by omega,by omega⟩;refine ACalls.en Tryz.func296 Tryz.ntmps296 ?_;repeat' (first|refine aa.aF ?_|refine aa.bh true ?_|refine aa.aj [0] (a0) ?_|refine aa.aj [0] (fc) ?_|refine aa.aj [0] (sk) ?_|refine aa.aB ?_|refine aa.ak ?_|refine aa.au ?_|refine aa.bg ?_|refine aa.aQ ?_|refine aa.aC ?_|(apply aa.nP (.cH [I 0, .d (.sl 3 []),I de]);rfl;exact cJ.cH ⟨cJ.refl _,cJ.d (bW.aU 3),cJ.refl _,trivial⟩;rfl;rfl;rfl)|intro _|refine aa.aA ?_)
   all_goals exact Tn
 | false =>
  simp only[Bool.false_eq_true,if_false];rw[if_neg (by simp)];cases coded with
  | true =>
   simp only[if_true,List.drop_zero];have ec1:=ec 0 (by omega);have hel1:=hel 0 (by omega);rw[Nat.add_zero]at ec1 hel1;generalize gh 66 (aG s p) (frm false:Nat)=y at *;obtain⟨l,e,c⟩:=y;simp only at ec1 hel1 ⊢;by_cases he:e=0
   ·subst he;rw[if_neg (by simp)];simp only[Nat.zero_add];refine ACalls.en Tryz.func296 Tryz.ntmps296 ?_;repeat' (first|refine aa.aF ?_|refine aa.bh true ?_|refine aa.aj [0] (a0) ?_|refine aa.aj [0] (ec1) ?_|refine aa.av (fr) ?_|refine aa.aB ?_|refine aa.ak ?_|refine aa.au ?_|refine aa.bg ?_|refine aa.aQ ?_|refine aa.aC ?_|intro _|refine aa.aA ?_)
    all_goals exact Tn
   ·rw[if_pos he];simp only;rw[e00];have sk:=gI (gl:=gtc) s ((p+c:Nat):Int) p (by omega) ⟨by omega,by omega⟩;refine ACalls.en Tryz.func296 Tryz.ntmps296 ?_;repeat' (first|refine aa.aF ?_|refine aa.bh true ?_|refine aa.aj [0] (a0) ?_|refine aa.aj [0] (ec1) ?_|refine aa.aj [0] (sk) ?_|refine aa.av (fr) ?_|refine aa.aB ?_|refine aa.ak ?_|refine aa.au ?_|refine aa.bg ?_|refine aa.aQ ?_|refine aa.aC ?_|(apply aa.nP (.cH [I 0, .d (.sl 3 []),I e]);rfl;exact cJ.cH ⟨cJ.refl _,cJ.d (bW.aU 3),cJ.refl _,trivial⟩;rfl;rfl;rfl)|intro _|refine aa.aA ?_)
    all_goals exact Tn
  |false =>
   simp only[Bool.false_eq_true,if_false];rw[e00];refine ACalls.en Tryz.func296 Tryz.ntmps296 ?_;repeat' (first|refine aa.aF ?_|refine aa.bh true ?_|refine aa.aj [0] (a0) ?_|refine aa.aB ?_|refine aa.ak ?_|refine aa.au ?_|refine aa.bg ?_|refine aa.aQ ?_|refine aa.aC ?_|(apply aa.nP (.cH [I 0, .d (.sl 3 []),I 0]);rfl;exact cJ.cH ⟨cJ.refl _,cJ.d (bW.aU 3),cJ.refl _,trivial⟩;rfl;rfl;rfl)|intro _|refine aa.aA ?_)
   all_goals exact Tn
end Tc
namespace Tc
open Go Bt
attribute [local irreducible] aa ACalls
variable {gl:List (Nat×List D)}
attribute [local irreducible] kr wD IC KT rB kP bU KM
end Tc
namespace Tc
open Go Bt
attribute [local irreducible] aa ACalls
variable {gl:List (Nat×List D)}
theorem nN(rows:List (List UInt8)):∀(Dg w:List UInt8),(dB rows Dg w).2.1=0→(dB rows Dg w).2.2≤w.length+Dg.length
 |[],w,h=>by simp[dB]at h
 | x :: r, w, h => by
  rw[dB]at h ⊢;unfold jo at h ⊢;cases hf:lG (w++[x]) rows 0 with
  |some i=>rw[hf]at h;simp
  | none =>
   rw[hf]at h;simp only at h ⊢;by_cases ha:rows.any (fun r=>(w++[x]).isPrefixOf r)=true
   ·rw[if_pos ha]at h ⊢;have:=nN rows r (w++[x]) h;simp at this ⊢;omega
   ·rw[if_neg ha]at h;simp at h
theorem I4(s:List UInt8)(q:Nat)(h:q<8*s.length):(jw s)[q]?=some (cn (fq s (q:Int))):=by
 have h1:=wS s q;rw[jd s q h]at h1;have h2:=congrArg (fun l=>l[0]?) h1;simpa using h2
theorem xD(b:Int)(h:b=0∨b=1):((cn b).toNat:Int)=48+b∧bB (cn b)=true:=by
 rcases h with rfl|rfl<;>decide
theorem xe:∀l:List Int,(∀b∈l,b=0∨b=1)→iT (l.map cn)=nB l:=by
 intro l;refine nK (P:=fun l=>(∀b∈l,b=0∨b=1)→iT (l.map cn)=nB l) (fun _=>rfl) (fun l b ih h=>?_) l;rw[List.map_append,List.map_cons,List.map_nil,lV,kz,ih fun x hx=>h x (by simp[hx])];have:=(xD b (h b (by simp))).1;omega
theorem all_map(l:List Int)(h:∀b∈l,b=0∨b=1):(l.map cn).all bB=true:=by
 rw[List.all_eq_true];intro x hx;obtain⟨b,hb,rfl⟩:=List.mem_map.1 hx;exact (xD b (h b hb)).2
theorem rM(a b:List Int):nB (a++b)=nB a*2^b.length+nB b:=by
 refine nK (P:=fun b=>nB (a++b)=nB a*2^b.length+nB b) (by simp[nB]) (fun l x ih=>?_) b;rw[←List.append_assoc,kz,kz,ih,List.length_append,List.length_singleton,Int.pow_succ,Int.mul_add,←Int.mul_assoc];have:2*nB a*2^l.length=nB a*(2^l.length*2):=by rw[Int.mul_comm 2,Int.mul_assoc,Int.mul_comm 2,]
 omega
theorem KO(b0 n6 n8:Int)(h0:b0=0∨b0=1)(h6:0≤n6∧n6<64)(h8:0≤n8∧n8<256):fu ((b0*64+n6)*256+n8)=⟨decide (48+b0=49),n6,if 127<n8 then n8-256 else n8⟩:=by
 unfold fu;have e1:((b0*64+n6)*256+n8)/2^14=b0:=by omega
 have e2:((b0*64+n6)*256+n8)/2^8=b0*64+n6:=by omega
 have e3:((b0*64+n6)*256+n8)%256=n8:=by omega
 have e4:((((b0*64+n6).toNat &&& (63:Int).toNat:Nat):Int))=n6:=by rw[O1];omega
 have e5:(if 128≤n8 then n8-256 else n8)=(if 127<n8 then n8-256 else n8):=by
  by_cases h:127<n8
  ·rw[if_pos h,if_pos (by omega)]
  ·rw[if_neg h,if_neg (by omega)]
 have e6:decide (b0=1)=decide (48+b0=49):=by rw[decide_eq_decide];omega
 rw[e1,e2,e3,e4,←e5,←e6]
theorem zf{e:Ev}(h:evR e=true):decide (kP e.last e.run (kI e.level)=[])=!decide (0≤dD e.last e.run (max e.level (-e.level))):=by
 have hb:(0≤e.run∧e.run≤63)∧e.level≠0 ∧ -127≤e.level∧e.level≤127:=of_decide_eq_true h;have ab:=Bp hb.2;rw[←Bo];by_cases hm:dx e.last e.run<kI e.level
 ·obtain⟨t1,t2⟩:=Iw e.last e.run (kI e.level) hb.1 hm;rw[t1,t2];rfl
 ·obtain⟨t1,t2,t3⟩:=Iu e.last e.run (kI e.level) hb.1 ab.1 hm;rw[decide_eq_false t3,decide_eq_true t1.1];rfl
end Tc
end Go.Proofs.YtbpednchkndocaaGreatDoor.Av
