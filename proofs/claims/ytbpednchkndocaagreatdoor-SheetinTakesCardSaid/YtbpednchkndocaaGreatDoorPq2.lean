/- Events are read: tcoef.read and tcoef.Take. Events are read: tcoef.Take; blocks are read: blocks.first. Blocks are read: blocks.events. Blocks are read: blocks.Take. Events are read: the document's answer. Events are read: the document's Take. -/
import Derived.Test.YtbpednchkndocaaGreatDoorPq1
import Derived.Test.YtbpednchkndocaaGreatDoorPn4
import Derived.Test.YtbpednchkndocaaGreatDoorPl
set_option linter.unusedVariables false
set_option linter.unusedSimpArgs false
set_option maxRecDepth 100000
set_option maxHeartbeats 64000000
namespace Go.Proofs.YtbpednchkndocaaGreatDoor.Av
namespace Tc
open Go Bt
attribute [local irreducible] aa ACalls
variable {gl:List (Nat×List D)}
theorem ut (s:List UInt8) (p:Nat) (hs:s.length<1000000000000000) (h:p<8*s.length):ACalls (cxg gl) 186 [.ptr 0 0,I 1] [Rd s p] (fun r H=>r = .bK [I (dz s p),I 0]∧H=[Rd s ((p+1:Nat):Int)]):=by
 have:=ol (gl:=gl) s p (by omega) hs (by omega)
 rwa [show pk1 s p=(dz s p,0) by unfold pk1;rw[if_neg (by omega)],show tk1 s p=((p+1:Nat):Int) by unfold tk1;rw[if_neg (by omega)];omega]at this
theorem uq (s:List UInt8) (p:Nat) (hs:s.length<1000000000000000) (h:p=8*s.length):ACalls (cxg gl) 186 [.ptr 0 0,I 1] [Rd s p] (fun r H=>r = .bK [I 0,I 2]∧H=[Rd s p]):=by
 have:=ol (gl:=gl) s p (by omega) hs (by omega)
 rwa [show pk1 s p=(0,2) by unfold pk1;rw[if_pos (by omega)],show tk1 s p=p by unfold tk1;rw[if_pos (by omega)]]at this
def evX (B:List Int):Ev×Int×Nat :=
 if (cV dF (B.map bM) []).2.1≠0 then (ev0,(cV dF (B.map bM) []).2.1,0) else
 if (cV dF (B.map bM) []).1=0 then lw (nB ((B.drop 7).take 15)) (B.length - 7) else
 if B.length≤(cV dF (B.map bM) []).2.2 then (ev0,2,0) else
 (⟨(jh (cV dF (B.map bM) []).1.toNat).1,(jh (cV dF (B.map bM) []).1.toNat).2.1,((jh (cV dF (B.map bM) []).1.toNat).2.2:Int)*(1 - 2*B.getD (cV dF (B.map bM) []).2.2 0)⟩,0,(cV dF (B.map bM) []).2.2+1)
def sU (B:List Int):Nat :=
 if (jM B 0 1).2.1≠0 then (jM B 0 1).2.2 else
 if (jM B 0 1).1 = -1 then 7+sW (nB ((B.drop 7).take 15)) (B.length - 7) else
 if B.length≤(jM B 0 1).2.2 then (jM B 0 1).2.2 else (jM B 0 1).2.2+1
theorem qJ {B:List Int} (hB:∀b∈B,b=0∨b=1) {a e:Int} {c:Nat} (h:jM B 0 1=(a,e,c)) (he:e≠0):evX B=(ev0,e,0)∧sU B=c:=by
 obtain⟨h1,h2⟩:=jf 13 0 1 [] iq B hB
 rw[h]at h1
 simp only at h1
 unfold evX sU
 rw[←h1,h,if_pos he,if_pos he]
 exact⟨rfl,rfl⟩
theorem tT {B:List Int} (hB:∀b∈B,b=0∨b=1) {c:Nat} (h:jM B 0 1=(-1,0,c)):evX B=lw (nB ((B.drop 7).take 15)) (B.length - 7)∧sU B=7+sW (nB ((B.drop 7).take 15)) (B.length - 7):=by
 obtain⟨h1,h2⟩:=jf 13 0 1 [] iq B hB
 rw[h]at h1 h2
 simp only at h1 h2
 obtain⟨h3,i,h4,h5⟩:=h2 h1.symm
 have hi:i=0:=by
  unfold okE at h5
  split at h5
  ·assumption
  ·simp at h5
 subst hi
 constructor
 ·unfold evX
  rw[h4,←h1,if_neg (by simp),if_pos (show ((0:Nat):Int)=0 from rfl)]
 ·unfold sU
  rw[h,if_neg (by simp),if_pos rfl]
theorem qK {B:List Int} (hB:∀b∈B,b=0∨b=1) {a:Int} {c:Nat} (h:jM B 0 1=(a,0,c)) (ha:0≤a):∃(la:Bool) (ru am:Nat),1≤am∧(am:Int)≤eP la ru∧ru≤63∧dE la ru am=a ∧
  evX B=(if B.length≤c then (ev0,2,0) else (⟨la,ru,(am:Int)*(1 - 2*B.getD c 0)⟩,0,c+1))∧sU B=if B.length≤c then c else c+1:=by
 obtain⟨h1,h2⟩:=jf 13 0 1 [] iq B hB
 rw[h]at h1 h2
 simp only at h1 h2
 obtain⟨h3,i,h4,h5⟩:=h2 h1.symm
 have hi:i≠0:=by
  rintro rfl
  unfold okE at h5
  rw[if_pos rfl,decide_eq_true_eq]at h5
  omega
 unfold okE at h5
 rw[if_neg hi]at h5
 simp only[Bool.and_eq_true,decide_eq_true_eq]at h5
 obtain⟨⟨⟨⟨q1,q2⟩,q3⟩,q4⟩,q5⟩:=h5
 refine⟨_,_,_,q3,q4,q5,q2,?_,?_⟩
 ·unfold evX
  rw[h4,←h1,if_neg (by simp),if_neg (by omega),←h3,Int.toNat_natCast]
 ·unfold sU
  rw[h,if_neg (by simp),if_neg (by simp only;omega)]
theorem wM (s:List UInt8) (p k:Nat) (h:p+k<8*s.length):(ak s p).getD k 0=dz s ((p+k:Nat):Int):=by
 unfold ak
 rw[List.getD_eq_getElem?_getD,List.getElem?_map,List.getElem?_range (by omega)];rfl
theorem bX (s:List UInt8) (p k:Nat):(ak s p).drop k=ak s (p+k):=by
 apply List.ext_getElem?
 intro i
 unfold ak
 rw[List.getElem?_drop,List.getElem?_map,List.getElem?_map]
 by_cases h:k+i<8*s.length - p
 ·rw[List.getElem?_range h,List.getElem?_range (by omega)]
  simp[Nat.add_assoc]
 ·rw[List.getElem?_eq_none (by simp;omega),List.getElem?_eq_none (by simp;omega)]
  rfl
attribute [local irreducible] dE eP qE nB evX sU lu lw sW dF jh dz ak
theorem Hn (s:List UInt8) (p:Nat) (hs:s.length≤1000000) (hp:p≤8*s.length):ACalls (cxg gtc) 317 [.ptr 0 0] [Rd s p]
  (fun r H=>r = .bK [.d (evD (evX (ak s p)).1),I (evX (ak s p)).2.1]∧H=[Rd s ((p+sU (ak s p):Nat):Int)]):=by
 have hB:=cO s p
 have hBl:=bY s p
 refine ACalls.en Tryz.func317 Tryz.ntmps317 ?_
 repeat (first|refine aa.aD ?_|refine aa.bh true ?_|refine aa.ae ?_|refine aa.af ?_|refine aa.au ?_|refine aa.ai ?_|refine aa.aG ?_|refine aa.aA ?_|refine aa.aL ?_|refine aa.aj ?_|refine aa.bL ?_|refine aa.bD ?_|refine aa.aB ?_)
 refine aa.weak (env':=[(5,I ((0+1:Nat):Int)),(4,I 0),(2, .ptr 1 0),(0, .ptr 0 0)]) ⟨rfl,rfl,rfl,rfl,trivial⟩ ?_
 refine aa.loop (fun m env H=>∃(k:Nat) (v:Int) (w:List UInt8),m=8*s.length - (p+k)∧p+k≤8*s.length∧lu (13 - k) v (k+1) w=true∧jM (ak s (p+k)) v (k+1)=jM (ak s p) 0 1 ∧
  env=[(5,I ((k+1:Nat):Int)),(4,I v),(2, .ptr 1 0),(0, .ptr 0 0)]∧∃cs,cs.length=3∧H=[Rd s ((p+k:Nat):Int), .cells cs]) (8*s.length - p)
  ⟨0,0,[],by simp,by omega,iq,rfl,rfl,_,rfl,rfl⟩ ?_
 rintro m env H ⟨k,v,w,rfl,hk,hag,hm,rfl,cs,hcs,rfl⟩
 obtain⟨f,hf⟩:∃f,13 - k=f+1:=by
  cases h:13 - k with
  |zero=>rw[h]at hag;unfold lu at hag;cases hag
  |succ f=>exact⟨f,rfl⟩
 rw[hf]at hag
 unfold lu at hag
 simp only[Bool.and_eq_true,decide_eq_true_eq]at hag
 obtain⟨⟨⟨hn12,hv0⟩,hv1⟩,hag⟩:=hag
 match cs,hcs with
 |[c0,c1,c2],_ =>
 rcases Nat.lt_or_ge (p+k) (8*s.length)with hlt|hge
 ·rw[fO s _ hlt]at hm
  have t1:=ut (gl:=gtc) s (p+k) (by omega) hlt
  have hb:=jw s ((p+k:Nat):Int)
  have hb01:dz s ((p+k:Nat):Int)=0∨dz s ((p+k:Nat):Int)=1:=by omega
  rw[jM]at hm
  generalize dz s ((p+k:Nat):Int)=b at *
  have hagb:=List.all_eq_true.1 hag b (by rcases hb01 with h|h<;>simp[h])
  have eo:=CP v b hv0 hb01
  unfold vk at hm hagb
  by_cases hesc:k+1=7∧2*v+b=3
  ·rw[if_pos hesc]at hm
   simp only at hm
   obtain⟨x1,x2⟩:=tT hB hm.symm
   have hk6:k=6:=by omega
   have es:=EH (gl:=gtc) s (p+7) hs (by omega)
   rw[←bX,show 8*s.length - (p+7)=(ak s p).length - 7 by omega]at es
   rw[x1,x2]
   have e6:p+k+1=p+7:=by omega
   have e7:p+7+sW (nB (((ak s p).drop 7).take 15)) ((ak s p).length - 7)=p+(7+sW (nB (((ak s p).drop 7).take 15)) ((ak s p).length - 7)):=by omega
   rw[e6]at t1
   rw[e7]at es
   have eo3:=eo
   rw[hesc.2]at eo3
   repeat' (first|refine aa.aD ?_|(apply aa.q true;rfl;rfl;rfl;rfl;first|exact True.intro|omega|(simp only[tn,Int.reduceToNat];omega)|(simp only[];omega)|(omega))|refine aa.az [0] ( t1) ?_|refine aa.az [0] ( es) ?_|refine aa.ae ?_|refine aa.af ?_|refine aa.au ?_|refine aa.ai ?_|refine aa.aG ?_|refine aa.aA ?_|refine aa.aL ?_|refine aa.aj ?_|refine aa.bL ?_|refine aa.bD ?_|refine aa.aB ?_|intro _|(apply aa.gD;rfl;rfl;rfl)|refine aa.av ?_|refine aa.aP ?_|refine aa.aI ?_)
   all_goals first|exact⟨rfl,rfl⟩|omega
  ·rw[if_neg hesc]at hm hagb
   have fc:=L6 (2*v+b) ((k+1:Nat):Int) (by omega) (by omega)
   rw[←eo]at fc
   have hvb:2*v+b≤10001∧0≤2*v+b:=by omega
   have esym:=eo
   generalize hfe:qE (2*v+b) ((k+1:Nat):Int)=fr at *
   obtain⟨a,may⟩:=fr
   rw[eo,hfe]at fc
   rw[←eo]at fc
   simp only at hm hagb fc
   by_cases ha:0≤a
   ·rw[if_pos ha]at hm hagb
    simp only at hm hagb
    obtain⟨la,ru,am,q1,q2,q3,q4,x1,x2⟩:=qK hB hm.symm ha
    have ec:=JH (gl:=gtc) la ru am q3 ⟨by omega,q2⟩
    rw[q4]at ec
    have hmb:=ij la ru
    rw[hBl]at x1 x2
    rcases Nat.lt_or_ge (p+k+1) (8*s.length)with hl2|hg2
    ·have t2:=ut (gl:=gtc) s (p+k+1) (by omega) hl2
     rw[if_neg (by omega)]at x1 x2
     rw[wM s p (k+1) (by omega),show p+(k+1)=p+k+1 by omega]at x1
     have hb2:=jw s ((p+k+1:Nat):Int)
     rw[x1,x2]
     generalize dz s ((p+k+1:Nat):Int)=b2 at *
     have hmul : -12≤(am:Int)*(1 - 2*b2)∧(am:Int)*(1 - 2*b2)≤12:=by
      rcases (show b2=0∨b2=1 by omega)with h|h
      ·subst h;omega
      ·subst h;omega
     repeat' (first|refine aa.aD ?_|(apply aa.q true;rfl;rfl;rfl;rfl;first|exact True.intro|omega|(simp only[tn,Int.reduceToNat];omega)|(omega))|refine aa.az [0] ( t1) ?_|refine aa.az [0] ( t2) ?_|refine aa.ah (fc) ?_|refine aa.ah (ec) ?_|refine aa.ae ?_|refine aa.af ?_|refine aa.au ?_|refine aa.ai ?_|refine aa.aG ?_|refine aa.aA ?_|refine aa.aL ?_|refine aa.aj ?_|refine aa.bL ?_|refine aa.bD ?_|refine aa.aB ?_|intro _|(apply aa.gD;rfl;rfl;rfl)|refine aa.av ?_|refine aa.aP ?_|refine aa.aI ?_)
     all_goals first|exact⟨rfl,rfl⟩|omega
    ·have t2:=uq (gl:=gtc) s (p+k+1) (by omega) (by omega)
     rw[if_pos (by omega)]at x1 x2
     rw[x1,x2]
     repeat' (first|refine aa.aD ?_|(apply aa.q true;rfl;rfl;rfl;rfl;first|exact True.intro|omega|(simp only[tn,Int.reduceToNat];omega)|(omega))|refine aa.az [0] ( t1) ?_|refine aa.az [0] ( t2) ?_|refine aa.ah (fc) ?_|refine aa.ae ?_|refine aa.af ?_|refine aa.au ?_|refine aa.ai ?_|refine aa.aG ?_|refine aa.aA ?_|refine aa.aL ?_|refine aa.aj ?_|refine aa.bL ?_|refine aa.bD ?_|refine aa.aB ?_|intro _|(apply aa.gD;rfl;rfl;rfl)|refine aa.av ?_|refine aa.aP ?_|refine aa.aI ?_)
     all_goals first|exact⟨rfl,rfl⟩|omega
   ·rw[if_neg ha]at hm hagb
    cases may with
    |false =>
     simp only[if_true]at hm
     obtain⟨x1,x2⟩:=qJ hB hm.symm (by decide)
     rw[x1,x2]
     repeat' (first|refine aa.aD ?_|(apply aa.q true;rfl;rfl;rfl;rfl;first|exact True.intro|omega|(simp only[tn,Int.reduceToNat];omega)|(omega))|refine aa.az [0] ( t1) ?_|refine aa.ah (fc) ?_|refine aa.ae ?_|refine aa.af ?_|refine aa.au ?_|refine aa.ai ?_|refine aa.aG ?_|refine aa.aA ?_|refine aa.aL ?_|refine aa.aj ?_|refine aa.bL ?_|refine aa.bD ?_|refine aa.aB ?_|intro _|(apply aa.gD;rfl;rfl;rfl)|refine aa.av ?_|refine aa.aP ?_|refine aa.aI ?_)
     all_goals first|exact⟨rfl,rfl⟩|omega
    |true =>
     simp only[Bool.true_eq_false,if_false]at hm hagb
     cases hr:iH dF w (bM b)with
     |done i c'=>rw[hr]at hagb;cases hagb
     |fail=>rw[hr]at hagb;cases hagb
     |next w' =>
      rw[hr]at hagb
      simp only at hagb
      have hk12:k+2≤12:=by
       cases f with
       |zero=>unfold lu at hagb;cases hagb
       |succ f =>
        unfold lu at hagb
        simp only[Bool.and_eq_true,decide_eq_true_eq]at hagb
        exact hagb.1.1.1
      have hf2:13 - (k+1)=f:=by omega
      repeat' (first|refine aa.aD ?_|(apply aa.q true;rfl;rfl;rfl;rfl;first|exact True.intro|omega|(simp only[tn,Int.reduceToNat];omega)|(omega))|refine aa.az [0] ( t1) ?_|refine aa.ah (fc) ?_|refine aa.ae ?_|refine aa.af ?_|refine aa.au ?_|refine aa.ai ?_|refine aa.aG ?_|refine aa.aA ?_|refine aa.aL ?_|refine aa.aj ?_|refine aa.bL ?_|refine aa.bD ?_|refine aa.aB ?_|intro _|(apply aa.gD;rfl;rfl;rfl)|refine aa.av ?_|refine aa.aP ?_|refine aa.aI ?_)
      all_goals first
       |exact aa.round [(5,I ((k+1+1:Nat):Int)),(4,I (2*v+b)),(2, .ptr 1 0),(0, .ptr 0 0)] (8*s.length - (p+(k+1))) (by omega) ⟨rfl,congrArg I eo,rfl,rfl,trivial⟩ ⟨k+1,2*v+b,w',rfl,by omega,by rw[hf2];exact hagb,hm,rfl,_,rfl,rfl⟩
       |omega
 ·have hpk:p+k=8*s.length:=by omega
  rw[kP s _ hge]at hm
  have hm2:jM (ak s p) 0 1=(0,2,k):=by rw[←hm];rfl
  obtain⟨x1,x2⟩:=qJ hB hm2 (by decide)
  have t1:=uq (gl:=gtc) s (p+k) (by omega) hpk
  rw[x1,x2]
  repeat' (first|refine aa.aD ?_|refine aa.bh true ?_|refine aa.az [0] ( t1) ?_|refine aa.ae ?_|refine aa.af ?_|refine aa.au ?_|refine aa.ai ?_|refine aa.aG ?_|refine aa.aA ?_|refine aa.aL ?_|refine aa.aj ?_|refine aa.bL ?_|refine aa.bD ?_|refine aa.aB ?_|intro _|(apply aa.gD;rfl;rfl;rfl)|refine aa.av ?_|refine aa.aP ?_|refine aa.aI ?_)
  all_goals first|exact⟨rfl,rfl⟩|omega
end Tc
namespace Tc
open Go Bt
attribute [local irreducible] aa ACalls
variable {gl:List (Nat×List D)}
theorem EI (v:Int) (n:Nat):((lw v n).2.1=0→(lw v n).2.2=7+sW v n)∧((lw v n).2.1≠0→(lw v n).2.2=0∧(lw v n).1=ev0):=by
 unfold lw sW
 split
 ·exact⟨fun h=>(by cases h),fun _=>⟨rfl,rfl⟩⟩
 ·split
  ·exact⟨fun h=>(by cases h),fun _=>⟨rfl,rfl⟩⟩
  ·exact⟨fun _=>rfl,fun h=>absurd rfl h⟩
theorem vg {B:List Int} (hB:∀b∈B,b=0∨b=1):((evX B).2.1=0→(evX B).2.2=sU B)∧((evX B).2.1≠0→(evX B).2.2=0∧(evX B).1=ev0):=by
 rcases hx:jM B 0 1 with⟨a,e,c⟩
 by_cases he:e=0
 ·subst he
  by_cases ha:0≤a
  ·obtain⟨la,ru,am,_,_,_,_,x1,x2⟩:=qK hB hx ha
   rw[x1,x2]
   split
   ·exact⟨fun h=>(by cases h),fun _=>⟨rfl,rfl⟩⟩
   ·exact⟨fun _=>rfl,fun h=>absurd rfl h⟩
  ·obtain⟨h1,h2⟩:=jf 13 0 1 [] iq B hB
   rw[hx]at h1 h2
   simp only at h1 h2
   obtain⟨_,i,_,h5⟩:=h2 h1.symm
   have ha1:a = -1:=by
    unfold okE at h5
    split at h5
    ·exact of_decide_eq_true h5
    ·simp only[Bool.and_eq_true,decide_eq_true_eq]at h5
     omega
   subst ha1
   obtain⟨x1,x2⟩:=tT hB hx
   rw[x1,x2]
   exact EI _ _
 ·obtain⟨x1,x2⟩:=qJ hB hx he
  rw[x1]
  exact⟨fun h=>absurd h he,fun _=>⟨rfl,rfl⟩⟩
theorem xK (s:List UInt8) (p:Nat) (hp:p≤8*s.length) (h0:(evX (ak s p)).2.1=0):p+(evX (ak s p)).2.2≤8*s.length:=by
 have hB:=cO s p
 have hBl:=bY s p
 rcases hx:jM (ak s p) 0 1 with⟨a,e,c⟩
 by_cases he:e=0
 ·subst he
  by_cases ha:0≤a
  ·obtain⟨la,ru,am,_,_,_,_,x1,x2⟩:=qK hB hx ha
   rw[x1]at h0 ⊢
   split at h0
   ·cases h0
   ·rename_i hc
    rw[if_neg hc]
    simp only
    omega
  ·obtain⟨h1,h2⟩:=jf 13 0 1 [] iq _ hB
   rw[hx]at h1 h2
   simp only at h1 h2
   obtain⟨_,i,_,h5⟩:=h2 h1.symm
   have ha1:a = -1:=by
    unfold okE at h5
    split at h5
    ·exact of_decide_eq_true h5
    ·simp only[Bool.and_eq_true,decide_eq_true_eq]at h5
     omega
   subst ha1
   obtain⟨x1,x2⟩:=tT hB hx
   rw[x1]at h0 ⊢
   unfold lw at h0 ⊢
   split at h0
   ·cases h0
   ·rename_i hc
    rw[if_neg hc]
    split at h0
    ·cases h0
    ·rename_i hc2
     rw[if_neg hc2]
     simp only
     omega
 ·obtain⟨x1,x2⟩:=qJ hB hx he
  rw[x1]at h0
  exact absurd h0 he
attribute [local irreducible] evX sU ak
theorem Fh (s:List UInt8) (p:Nat) (hs:s.length≤1000000) (hp:p≤8*s.length):ACalls (cxg gtc) 315 [.ptr 0 0] [Rd s p]
  (fun r H=>r = .bK [.d (evD (evX (ak s p)).1),I (evX (ak s p)).2.1]∧H=[Rd s ((p+(evX (ak s p)).2.2:Nat):Int)]):=by
 have rd:=Hn s p hs hp
 have a0:=qX (gl:=gtc) s p
 obtain⟨u1,u2⟩:=vg (cO s p)
 by_cases h0:(evX (ak s p)).2.1=0
 ·have e:=u1 h0
  rw[←e]at rd
  generalize evX (ak s p)=x at *
  obtain⟨ev,er,c⟩:=x
  simp only at h0 rd
  subst h0
  refine ACalls.en Tryz.func315 Tryz.ntmps315 ?_
  repeat' (first|refine aa.aD ?_|refine aa.bh true ?_|refine aa.az [0] ( a0) ?_|refine aa.az [0] ( rd) ?_|refine aa.ai ?_|refine aa.aG ?_|refine aa.aA ?_|refine aa.aK ?_|intro _|refine aa.av ?_)
  all_goals first|exact⟨rfl,rfl⟩|omega
 ·obtain⟨e1,e2⟩:=u2 h0
  have sk:=fG (gl:=gtc) s ((p+sU (ak s p):Nat):Int) p (by omega) ⟨by omega,by omega⟩
  generalize evX (ak s p)=x at *
  generalize sU (ak s p)=q at *
  obtain⟨ev,er,c⟩:=x
  simp only at h0 rd e1 e2
  subst e1
  refine ACalls.en Tryz.func315 Tryz.ntmps315 ?_
  repeat' (first|refine aa.aD ?_|refine aa.bh true ?_|refine aa.az [0] ( a0) ?_|refine aa.az [0] ( rd) ?_|refine aa.az [0] ( sk) ?_|refine aa.ai ?_|refine aa.aG ?_|refine aa.aA ?_|refine aa.aK ?_|intro _|refine aa.av ?_)
  all_goals first|exact⟨rfl,rfl⟩|omega
def dcX (v:Int) (n:Nat):Int×Int×Nat:=if n<8 then (0,2,0) else if v=0∨v=128 then (0,7,8) else if v=255 then (128,0,8) else (v,0,8)
attribute [local irreducible] nB
theorem JG (s:List UInt8) (p:Nat) (hs:s.length≤1000000) (hp:p≤8*s.length):ACalls (cxg gl) 309 [.ptr 0 0] [Rd s p]
  (fun r H=>r = .bK [I (dcX (nB ((ak s p).take 8)) (8*s.length - p)).1,I (dcX (nB ((ak s p).take 8)) (8*s.length - p)).2.1]∧H=[Rd s ((p+(dcX (nB ((ak s p).take 8)) (8*s.length - p)).2.2:Nat):Int)]):=by
 have tk:=iO (gl:=gl) s p 8 (by omega) hp (by omega)
 unfold pkN tkN at tk
 unfold dcX
 by_cases h:8*s.length<p+8
 ·rw[if_pos h,if_pos h]at tk
  rw[if_pos (by omega)]
  refine ACalls.en Tryz.func309 Tryz.ntmps309 ?_
  repeat' (first|refine aa.aD ?_|refine aa.bh true ?_|refine aa.az [0] ( tk) ?_|refine aa.ae ?_|refine aa.af ?_|refine aa.au ?_|refine aa.ai ?_|intro _|refine aa.av ?_)
  all_goals first|exact⟨rfl,rfl⟩|omega
 ·rw[if_neg h,if_neg h]at tk
  rw[if_neg (by omega)]
  generalize nB ((ak s p).take 8)=v at *
  by_cases h0:v=0∨v=128
  ·rw[if_pos h0]
   rcases h0 with rfl|rfl
   all_goals
    refine ACalls.en Tryz.func309 Tryz.ntmps309 ?_
    repeat' (first|refine aa.aD ?_|refine aa.bh true ?_|refine aa.az [0] ( tk) ?_|refine aa.ae ?_|refine aa.af ?_|refine aa.au ?_|refine aa.ai ?_|intro _|refine aa.av ?_)
    all_goals first|exact⟨rfl,rfl⟩|omega
  ·rw[if_neg h0]
   by_cases h1:v=255
   ·rw[if_pos h1]
    subst h1
    refine ACalls.en Tryz.func309 Tryz.ntmps309 ?_
    repeat' (first|refine aa.aD ?_|refine aa.bh true ?_|refine aa.az [0] ( tk) ?_|refine aa.ae ?_|refine aa.af ?_|refine aa.au ?_|refine aa.ai ?_|intro _|refine aa.av ?_)
    all_goals first|exact⟨rfl,rfl⟩|omega
   ·rw[if_neg h1]
    refine ACalls.en Tryz.func309 Tryz.ntmps309 ?_
    repeat' (first|refine aa.aD ?_|refine aa.bh true ?_|refine aa.az [0] ( tk) ?_|refine aa.ae ?_|refine aa.af ?_|refine aa.au ?_|refine aa.ai ?_|intro _|refine aa.av ?_)
    all_goals first|exact⟨rfl,rfl⟩|omega
end Tc
namespace Tc
open Go Bt
attribute [local irreducible] aa ACalls
variable {gl:List (Nat×List D)}
theorem Dn {B:List Int} (hB:∀b∈B,b=0∨b=1) (h0:(evX B).2.1=0):0≤(evX B).1.run∧(evX B).1.run≤63:=by
 rcases hx:jM B 0 1 with⟨a,e,c⟩
 by_cases he:e=0
 ·subst he
  by_cases ha:0≤a
  ·obtain⟨la,ru,am,_,_,q3,_,x1,x2⟩:=qK hB hx ha
   rw[x1]at h0 ⊢
   split at h0
   ·cases h0
   ·rename_i hc
    rw[if_neg hc]
    simp only
    omega
  ·obtain⟨h1,h2⟩:=jf 13 0 1 [] iq _ hB
   rw[hx]at h1 h2
   simp only at h1 h2
   obtain⟨_,i,_,h5⟩:=h2 h1.symm
   have ha1:a = -1:=by
    unfold okE at h5
    split at h5
    ·exact of_decide_eq_true h5
    ·simp only[Bool.and_eq_true,decide_eq_true_eq]at h5
     omega
   subst ha1
   obtain⟨x1,x2⟩:=tT hB hx
   rw[x1]at h0 ⊢
   unfold lw at h0 ⊢
   split at h0
   ·cases h0
   ·rename_i hc
    rw[if_neg hc]
    split at h0
    ·cases h0
    ·rename_i hc2
     rw[if_neg hc2]
     unfold jL at hc2
     simp only[Bool.or_eq_true,not_or,Bool.not_eq_true',Bool.not_eq_false]at hc2
     exact (of_decide_eq_true (show decide _=true from hc2.1)).1
 ·obtain⟨x1,x2⟩:=qJ hB hx he
  rw[x1]at h0
  exact absurd h0 he
def eu:Nat→List Int→Int→List Ev×Int×Nat
 |0,_,_=>([],7,0)
 |f+1,B,a=>if (evX B).2.1≠0 then ([],(evX B).2.1,0) else
  if 64<a+((evX B).1.run+1) then ([],7,(evX B).2.2) else
  if (evX B).1.last=true then ([(evX B).1],0,(evX B).2.2) else
  if (eu f (B.drop (evX B).2.2) (a+((evX B).1.run+1))).2.1≠0 then ([],(eu f (B.drop (evX B).2.2) (a+((evX B).1.run+1))).2.1,(evX B).2.2+(eu f (B.drop (evX B).2.2) (a+((evX B).1.run+1))).2.2) else
  ((evX B).1::(eu f (B.drop (evX B).2.2) (a+((evX B).1.run+1))).1,0,(evX B).2.2+(eu f (B.drop (evX B).2.2) (a+((evX B).1.run+1))).2.2)
def yA (acc:List Ev) (q:Nat) (y:List Ev×Int×Nat):List Ev×Int×Nat:=if y.2.1≠0 then ([],y.2.1,q+y.2.2) else (acc++y.1,0,q+y.2.2)
theorem HQ (y:List Ev×Int×Nat) (h:y.2.1≠0→y.1=[]):yA [] 0 y=y:=by
 unfold yA
 split
 ·rename_i h1
  obtain⟨l,e,c⟩:=y
  simp only at h h1 ⊢
  rw[h h1,Nat.zero_add]
 ·rename_i h1
  obtain⟨l,e,c⟩:=y
  simp only[ne_eq,Decidable.not_not]at h1
  subst h1
  simp
theorem Aq:∀(f:Nat) (B:List Int) (a:Int),(eu f B a).2.1≠0→(eu f B a).1=[]
 |0,_,_,_=>rfl
 |f+1,B,a,h=>by
  rw[eu]at h ⊢
  split
  ·rfl
  ·rename_i h1
   rw[if_neg h1]at h
   split
   ·rfl
   ·rename_i h2
    rw[if_neg h2]at h
    split
    ·rename_i h3
     rw[if_pos h3]at h
     exact absurd rfl h
    ·rename_i h3
     rw[if_neg h3]at h
     split
     ·rfl
     ·rename_i h4
      rw[if_neg h4]at h
      exact absurd rfl h
theorem wS {acc:List Ev} {q f:Nat} {B:List Int} {a:Int} (h0:(evX B).2.1=0) (h1:¬64<a+((evX B).1.run+1)) (h2:(evX B).1.last=false) :
  yA acc q (eu (f+1) B a)=yA (acc++[(evX B).1]) (q+(evX B).2.2) (eu f (B.drop (evX B).2.2) (a+((evX B).1.run+1))):=by
 rw[eu,if_neg (by simpa using h0),if_neg h1,if_neg (by rw[h2];decide)]
 unfold yA
 by_cases h:(eu f (B.drop (evX B).2.2) (a+((evX B).1.run+1))).2.1≠0
 ·rw[if_pos h,if_pos h]
  simp only
  rw[if_pos h,Nat.add_assoc]
 ·rw[if_neg h,if_neg h]
  simp[Nat.add_assoc]
theorem qI (l:List Ev) (e:Ev):cn (l++[e])=cn l++[evD e]:=by simp[cn]
attribute [local irreducible] evX ak eu cn
theorem Ho (s:List UInt8) (p:Nat) (a0:Int) (hs:s.length≤1000000) (hp:p≤8*s.length) (ha0:0≤a0∧a0≤1):ACalls (cxg gtc) 310 [.ptr 0 0,I a0] [Rd s p]
  (fun r H=>r = .bK [.d (.sl 3 (cn (eu 66 (ak s p) a0).1)),I (eu 66 (ak s p) a0).2.1]∧H=[Rd s ((p+(eu 66 (ak s p) a0).2.2:Nat):Int)]):=by
 have e00:cn []=[]:=by unfold cn;rfl
 have hc0:=HQ (eu 66 (ak s p) a0) (Aq _ _ _)
 generalize hR:eu 66 (ak s p) a0=R at *
 refine ACalls.en Tryz.func310 Tryz.ntmps310 ?_
 repeat (first|refine aa.aD ?_|refine aa.bh true ?_|refine aa.ae ?_|refine aa.af ?_|refine aa.au ?_|refine aa.ai ?_|refine aa.aG ?_|refine aa.aA ?_|refine aa.aK ?_|refine aa.aF ?_|refine aa.IV ?_|apply aa.label|refine aa.Ah 6 235 3 ?_|refine aa.mi 6 ?_)
 refine aa.weak (env':=[(6, .own 3 (cn []) 1),(1,I a0),(0, .ptr 0 0)]) ⟨by rw[e00];rfl,rfl,rfl,trivial⟩ ?_
 refine aa.loop (fun m env H=>∃(f:Nat) (acc:List Ev) (q:Nat) (a:Int),m=f∧p+q≤8*s.length∧(0≤a∧a≤64∧65 - a<f)∧(acc.length:Int)≤a∧yA acc q (eu f (ak s (p+q)) a)=R ∧
  env=[(6, .own 3 (cn acc) 1),(1,I a),(0, .ptr 0 0)]∧H=[Rd s ((p+q:Nat):Int), .front 235 3 (cn acc).length]) 66
  ⟨66,[],0,a0,rfl,by omega,by omega,by simp;omega,by rw[Nat.add_zero,hR];exact hc0,rfl,by first|(rw[e00];done)|(rw[e00];rfl)⟩ ?_
 rintro m env H ⟨f,acc,q,a,rfl,hq,ha,hacc,hm,rfl,rfl⟩
 obtain⟨f,rfl⟩:∃g,m=g+1:=⟨m - 1,by omega⟩
 have tk:=Fh s (p+q) hs hq
 have hB:=cO s (p+q)
 have hal:=nT acc
 by_cases h0:(evX (ak s (p+q))).2.1=0
 ·have hrun:=Dn hB h0
  have hle:=xK s (p+q) hq h0
  by_cases h1:64<a+((evX (ak s (p+q))).1.run+1)
  ·have hx:eu (f+1) (ak s (p+q)) a=([],7,(evX (ak s (p+q))).2.2):=by unfold eu;rw[if_neg (by simpa using h0),if_pos h1]
   rw[hx]at hm
   have hm2:R=([],7,q+(evX (ak s (p+q))).2.2):=by rw[←hm];rfl
   rw[hm2]
   generalize evX (ak s (p+q))=x at *
   obtain⟨⟨la,ru,le⟩,er,c⟩:=x
   simp only at h0 h1 hrun tk
   subst h0
   rw[e00,←Nat.add_assoc]
   repeat' (first|refine aa.aD ?_|refine aa.bh true ?_|refine aa.az [0] ( tk) ?_|refine aa.ae ?_|refine aa.af ?_|refine aa.au ?_|refine aa.ai ?_|refine aa.aG ?_|refine aa.aA ?_|refine aa.aK ?_|refine aa.aF ?_|(apply aa.kU (.bK [.d (.sl 3 []),I 7]);rfl;exact aT.bK ⟨aT.d (d9.aY 3),aT.refl _,trivial⟩;rfl;rfl;rfl)|intro _|refine aa.aI ?_)
   all_goals first|exact⟨rfl,rfl⟩|omega
  ·cases h2:(evX (ak s (p+q))).1.last with
   |true =>
    have hx:eu (f+1) (ak s (p+q)) a=([(evX (ak s (p+q))).1],0,(evX (ak s (p+q))).2.2):=by unfold eu;rw[if_neg (by simpa using h0),if_neg h1,if_pos h2]
    rw[hx]at hm
    have hm2:R=(acc++[(evX (ak s (p+q))).1],0,q+(evX (ak s (p+q))).2.2):=by rw[←hm];rfl
    rw[hm2]
    have eA:=qI acc (evX (ak s (p+q))).1
    generalize evX (ak s (p+q))=x at *
    obtain⟨⟨la,ru,le⟩,er,c⟩:=x
    simp only at h0 h1 h2 hrun tk eA
    subst h0
    subst h2
    rw[←Nat.add_assoc]
    simp only
    rw[eA]
    repeat' (first|refine aa.aD ?_|(apply aa.append;(iterate 11 rfl);(first|rfl|(simp only[List.length_append,List.length_map,List.length_cons,List.length_nil];omega));(first|(simp only[List.length_append,List.length_map,List.length_cons,List.length_nil];omega)|(rw[hal];omega));simp only[List.set_cons_zero,List.set_cons_succ])|(apply aa.q true;rfl;rfl;rfl;rfl;first|exact True.intro|omega|(simp only[tn,Int.reduceToNat];omega)|(rw[hal];omega))|refine aa.az [0] ( tk) ?_|refine aa.ae ?_|refine aa.af ?_|refine aa.au ?_|refine aa.ai ?_|refine aa.aG ?_|refine aa.aA ?_|refine aa.aK ?_|refine aa.aF ?_|(apply aa.gN (.bK [.d (.sl 3 (cn acc++[evD ⟨true,ru,le⟩])),I 0]);rfl;exact aT.bK ⟨aT.own _ _ _,aT.refl _,trivial⟩;rfl;rfl;rfl)|intro _|refine aa.aI ?_)
    all_goals first|exact⟨rfl,rfl⟩|omega
   |false =>
    rw[wS h0 h1 h2,bX,Nat.add_assoc]at hm
    have eA:=qI acc (evX (ak s (p+q))).1
    generalize evX (ak s (p+q))=x at *
    obtain⟨⟨la,ru,le⟩,er,c⟩:=x
    simp only at h0 h1 h2 hrun tk eA hm hle
    subst h0
    subst h2
    rw[Nat.add_assoc]at tk
    repeat' (first|refine aa.aD ?_|(apply aa.append;(iterate 11 rfl);(first|rfl|(simp only[List.length_append,List.length_map,List.length_cons,List.length_nil];omega));(first|(simp only[List.length_append,List.length_map,List.length_cons,List.length_nil];omega)|(rw[hal];omega));simp only[List.set_cons_zero,List.set_cons_succ])|(apply aa.q true;rfl;rfl;rfl;rfl;first|exact True.intro|omega|(simp only[tn,Int.reduceToNat];omega)|(rw[hal];omega))|refine aa.az [0] ( tk) ?_|refine aa.ae ?_|refine aa.af ?_|refine aa.au ?_|refine aa.ai ?_|refine aa.aG ?_|refine aa.aA ?_|refine aa.aK ?_|refine aa.aF ?_|intro _|refine aa.aI ?_)
    all_goals first
     |exact aa.jk 2 [(6, .own 3 (cn (acc++[⟨false,ru,le⟩])) 1),(1,I (a+(ru+1))),(0, .ptr 0 0)] f (by omega) rfl rfl rfl rfl ⟨by rw[eA];rfl,rfl,rfl,trivial⟩ ⟨f,acc++[⟨false,ru,le⟩],q+c,a+(ru+1),rfl,by omega,by omega,by rw[List.length_append];simp;omega,hm,rfl,by first|(rw[eA];done)|(rw[eA];rfl)⟩
     |omega
 ·have hx:eu (f+1) (ak s (p+q)) a=([],(evX (ak s (p+q))).2.1,0):=by unfold eu;rw[if_pos h0]
  obtain⟨u1,u2⟩:=(vg hB).2 h0
  rw[hx]at hm
  have hm2:R=([],(evX (ak s (p+q))).2.1,q+0):=by rw[←hm];unfold yA;rw[if_pos h0]
  rw[hm2]
  generalize evX (ak s (p+q))=x at *
  obtain⟨⟨la,ru,le⟩,er,c⟩:=x
  simp only at h0 tk u1
  subst u1
  simp only[Nat.add_zero]at tk ⊢
  rw[e00]
  repeat' (first|refine aa.aD ?_|refine aa.bh true ?_|refine aa.az [0] ( tk) ?_|refine aa.ae ?_|refine aa.af ?_|refine aa.au ?_|refine aa.ai ?_|refine aa.aG ?_|refine aa.aA ?_|refine aa.aK ?_|refine aa.aF ?_|(apply aa.kU (.bK [.d (.sl 3 []),I er]);rfl;exact aT.bK ⟨aT.d (d9.aY 3),aT.refl _,trivial⟩;rfl;rfl;rfl)|intro _|refine aa.aI ?_)
  all_goals first|exact⟨rfl,rfl⟩|omega
end Tc
namespace Tc
open Go Bt Bl
attribute [local irreducible] aa ACalls
variable {gl:List (Nat×List D)}
def dc0 (intra:Bool) (B:List Int):Int×Int×Nat:=if intra=true then dcX (nB (B.take 8)) B.length else (0,0,0)
def blX (intra coded:Bool) (B:List Int):Int×List Ev×Int×Nat :=
  if (dc0 intra B).2.1≠0 then (0,[],(dc0 intra B).2.1,0) else
  if coded=true then
    (if (eu 66 (B.drop (dc0 intra B).2.2) (frm intra:Nat)).2.1≠0 then (0,[],(eu 66 (B.drop (dc0 intra B).2.2) (frm intra:Nat)).2.1,0)
     else ((dc0 intra B).1,(eu 66 (B.drop (dc0 intra B).2.2) (frm intra:Nat)).1,0,(dc0 intra B).2.2+(eu 66 (B.drop (dc0 intra B).2.2) (frm intra:Nat)).2.2))
  else ((dc0 intra B).1,[],0,(dc0 intra B).2.2)
theorem HE (v:Int) (n:Nat):(dcX v n).2.2≤n:=by
 unfold dcX
 split
 ·simp
 ·split
  ·simp only;omega
  ·split<;>(simp only;omega)
theorem yw:∀(f:Nat) (s:List UInt8) (p:Nat) (a:Int),p≤8*s.length→p+(eu f (ak s p) a).2.2≤8*s.length
 |0,s,p,a,h=>by simp[eu];exact h
 |f+1,s,p,a,h=>by
  rw[eu]
  by_cases h0:(evX (ak s p)).2.1=0
  ·have hle:=xK s p h h0
   rw[if_neg (by simpa using h0)]
   have ih:=yw f s (p+(evX (ak s p)).2.2) (a+((evX (ak s p)).1.run+1)) hle
   rw[←bX]at ih
   split
   ·exact hle
   ·split
    ·exact hle
    ·split<;>(simp only;omega)
  ·rw[if_pos h0]
   simpa using h
theorem Hb (b:Bool):(0:Int)≤(frm b:Nat)∧((frm b:Nat):Int)≤1:=by cases b<;>decide
attribute [local irreducible] eu dcX nB ak cn frm
theorem H4 (s:List UInt8) (p:Nat) (intra coded:Bool) (hs:s.length≤1000000) (hp:p≤8*s.length):ACalls (cxg gtc) 296 [.ptr 0 0,B intra,B coded] [Rd s p]
  (fun r H=>r = .bK [I (blX intra coded (ak s p)).1, .d (.sl 3 (cn (blX intra coded (ak s p)).2.1)),I (blX intra coded (ak s p)).2.2.1]∧H=[Rd s ((p+(blX intra coded (ak s p)).2.2.2:Nat):Int)]):=by
 have e00:cn []=[]:=by unfold cn;rfl
 have a0:=qX (gl:=gtc) s p
 have fr:=LY (gl:=gtc) intra
 have hfb:=Hb intra
 have hBl:=bY s p
 have fc:=JG (gl:=gtc) s p hs hp
 rw[←hBl]at fc
 have hdl:=HE (nB ((ak s p).take 8)) (ak s p).length
 have ec:=fun q hq=>Ho s (p+q) (frm intra:Nat) hs hq hfb
 have hel:=fun q hq=>yw 66 s (p+q) (frm intra:Nat) hq
 unfold blX dc0
 cases intra with
 |true =>
  simp only[if_true]
  generalize dcX (nB ((ak s p).take 8)) (ak s p).length=d at *
  obtain⟨dc,de,dn⟩:=d
  simp only at fc hdl ⊢
  by_cases hd:de=0
  ·subst hd
   rw[if_neg (by simp)]
   cases coded with
   |true =>
    simp only[if_true]
    have ec1:=ec dn (by omega)
    have hel1:=hel dn (by omega)
    rw[←bX]at ec1 hel1
    generalize eu 66 ((ak s p).drop dn) (frm true:Nat)=y at *
    obtain⟨l,e,c⟩:=y
    simp only at ec1 hel1 ⊢
    by_cases he:e=0
    ·subst he
     rw[if_neg (by simp)]
     simp only
     rw[←Nat.add_assoc]
     refine ACalls.en Tryz.func296 Tryz.ntmps296 ?_
     repeat' (first|refine aa.aD ?_|refine aa.bh true ?_|refine aa.az [0] ( a0) ?_|refine aa.az [0] ( fc) ?_|refine aa.az [0] ( ec1) ?_|refine aa.ah (fr) ?_|refine aa.au ?_|refine aa.ai ?_|refine aa.aj ?_|refine aa.bq ?_|refine aa.aK ?_|refine aa.aB ?_|intro _|refine aa.av ?_)
     all_goals first|exact⟨rfl,rfl⟩|omega
    ·rw[if_pos he]
     simp only
     rw[e00]
     have sk:=fG (gl:=gtc) s ((p+dn+c:Nat):Int) p (by omega) ⟨by omega,by omega⟩
     refine ACalls.en Tryz.func296 Tryz.ntmps296 ?_
     repeat' (first|refine aa.aD ?_|refine aa.bh true ?_|refine aa.az [0] ( a0) ?_|refine aa.az [0] ( fc) ?_|refine aa.az [0] ( ec1) ?_|refine aa.az [0] ( sk) ?_|refine aa.ah (fr) ?_|refine aa.au ?_|refine aa.ai ?_|refine aa.aj ?_|refine aa.bq ?_|refine aa.aK ?_|refine aa.aB ?_|(apply aa.gN (.bK [I 0, .d (.sl 3 []),I e]);rfl;exact aT.bK ⟨aT.refl _,aT.d (d9.aY 3),aT.refl _,trivial⟩;rfl;rfl;rfl)|intro _|refine aa.av ?_)
     all_goals first|exact⟨rfl,rfl⟩|omega
   |false =>
    simp only[Bool.false_eq_true,if_false]
    rw[e00]
    refine ACalls.en Tryz.func296 Tryz.ntmps296 ?_
    repeat' (first|refine aa.aD ?_|refine aa.bh true ?_|refine aa.az [0] ( a0) ?_|refine aa.az [0] ( fc) ?_|refine aa.au ?_|refine aa.ai ?_|refine aa.aj ?_|refine aa.bq ?_|refine aa.aK ?_|refine aa.aB ?_|(apply aa.gN (.bK [I dc, .d (.sl 3 []),I 0]);rfl;exact aT.bK ⟨aT.refl _,aT.d (d9.aY 3),aT.refl _,trivial⟩;rfl;rfl;rfl)|intro _|refine aa.av ?_)
    all_goals first|exact⟨rfl,rfl⟩|omega
  ·rw[if_pos hd]
   simp only
   rw[e00]
   have sk:=fG (gl:=gtc) s ((p+dn:Nat):Int) p (by omega) ⟨by omega,by omega⟩
   refine ACalls.en Tryz.func296 Tryz.ntmps296 ?_
   repeat' (first|refine aa.aD ?_|refine aa.bh true ?_|refine aa.az [0] ( a0) ?_|refine aa.az [0] ( fc) ?_|refine aa.az [0] ( sk) ?_|refine aa.au ?_|refine aa.ai ?_|refine aa.aj ?_|refine aa.bq ?_|refine aa.aK ?_|refine aa.aB ?_|(apply aa.gN (.bK [I 0, .d (.sl 3 []),I de]);rfl;exact aT.bK ⟨aT.refl _,aT.d (d9.aY 3),aT.refl _,trivial⟩;rfl;rfl;rfl)|intro _|refine aa.av ?_)
   all_goals first|exact⟨rfl,rfl⟩|omega
 |false =>
  simp only[Bool.false_eq_true,if_false]
  rw[if_neg (by simp)]
  cases coded with
  |true =>
   simp only[if_true,List.drop_zero]
   have ec1:=ec 0 (by omega)
   have hel1:=hel 0 (by omega)
   rw[Nat.add_zero]at ec1 hel1
   generalize eu 66 (ak s p) (frm false:Nat)=y at *
   obtain⟨l,e,c⟩:=y
   simp only at ec1 hel1 ⊢
   by_cases he:e=0
   ·subst he
    rw[if_neg (by simp)]
    simp only[Nat.zero_add]
    refine ACalls.en Tryz.func296 Tryz.ntmps296 ?_
    repeat' (first|refine aa.aD ?_|refine aa.bh true ?_|refine aa.az [0] ( a0) ?_|refine aa.az [0] ( ec1) ?_|refine aa.ah (fr) ?_|refine aa.au ?_|refine aa.ai ?_|refine aa.aj ?_|refine aa.bq ?_|refine aa.aK ?_|refine aa.aB ?_|intro _|refine aa.av ?_)
    all_goals first|exact⟨rfl,rfl⟩|omega
   ·rw[if_pos he]
    simp only
    rw[e00]
    have sk:=fG (gl:=gtc) s ((p+c:Nat):Int) p (by omega) ⟨by omega,by omega⟩
    refine ACalls.en Tryz.func296 Tryz.ntmps296 ?_
    repeat' (first|refine aa.aD ?_|refine aa.bh true ?_|refine aa.az [0] ( a0) ?_|refine aa.az [0] ( ec1) ?_|refine aa.az [0] ( sk) ?_|refine aa.ah (fr) ?_|refine aa.au ?_|refine aa.ai ?_|refine aa.aj ?_|refine aa.bq ?_|refine aa.aK ?_|refine aa.aB ?_|(apply aa.gN (.bK [I 0, .d (.sl 3 []),I e]);rfl;exact aT.bK ⟨aT.refl _,aT.d (d9.aY 3),aT.refl _,trivial⟩;rfl;rfl;rfl)|intro _|refine aa.av ?_)
    all_goals first|exact⟨rfl,rfl⟩|omega
  |false =>
   simp only[Bool.false_eq_true,if_false]
   rw[e00]
   refine ACalls.en Tryz.func296 Tryz.ntmps296 ?_
   repeat' (first|refine aa.aD ?_|refine aa.bh true ?_|refine aa.az [0] ( a0) ?_|refine aa.au ?_|refine aa.ai ?_|refine aa.aj ?_|refine aa.bq ?_|refine aa.aK ?_|refine aa.aB ?_|(apply aa.gN (.bK [I 0, .d (.sl 3 []),I 0]);rfl;exact aT.bK ⟨aT.refl _,aT.d (d9.aY 3),aT.refl _,trivial⟩;rfl;rfl;rfl)|intro _|refine aa.av ?_)
   all_goals first|exact⟨rfl,rfl⟩|omega
end Tc
namespace Tc
open Go Bt
attribute [local irreducible] aa ACalls
variable {gl:List (Nat×List D)}
abbrev TE:=List UInt8×Bool×Nat×Nat
def grp (la:Bool) (ru:Nat):List TE:=(gZ la (ru:Int)).zipIdx.map fun x=>(x.1,la,ru,x.2+1)
def kv (ru:Nat):List TE:=([48,48,48,48,48,49,49],false,0,0)::(List.range ru).flatMap fun r=>grp false r++grp true r
theorem uw:kv 64=qL:=by
 unfold kv qL grp
 simp
theorem DY (ru:Nat):kv (ru+1)=kv ru++grp false ru++grp true ru:=by
 unfold kv
 rw[List.range_succ,List.flatMap_append]
 simp
def tD (l:List TE):List D:=bE (l.map (·.1))
def eD (l:List TE):List D:=l.map fun x=>EF x.2.1 x.2.2.1 x.2.2.2
theorem KZ (l:List TE) (x:TE):tD (l++[x])=tD l++[.str x.1]:=by simp[tD,bE]
theorem Mg (l:List TE) (x:TE):eD (l++[x])=eD l++[EF x.2.1 x.2.2.1 x.2.2.2]:=by simp[eD]
theorem KY (l:List TE):(tD l).length=l.length:=by simp[tD,gK]
theorem Hw (l:List TE):(eD l).length=l.length:=by simp[eD]
theorem yl (la:Bool) (ru:Nat):(grp la ru).length=(gZ la ru).length:=by simp[grp]
theorem G7 (la:Bool) (ru i:Nat) (w:List UInt8) (h:(gZ la (ru:Int))[i]?=some w):(grp la ru).take (i+1)=(grp la ru).take i++[(w,la,ru,i+1)]:=by
 have:(grp la ru)[i]?=some (w,la,ru,i+1):=by simp[grp,List.getElem?_zipIdx,h]
 rw[List.take_add_one,this];rfl
theorem KV:∀ru:_root_.Fin 65,(kv ru.val).length≤103:=by decide +kernel
theorem KJ:∀la:Bool,∀ru:_root_.Fin 64,(gZ la ru.val).length≤12:=by decide +kernel
theorem wQ:qL.length=103:=by decide +kernel
theorem Hr (k:Nat) (h:k<103):(eD qL).getD ((k:Nat):Int).toNat .top=EF (jh k).1 (jh k).2.1 (jh k).2.2:=by
 have hl:=wQ
 unfold eD jh
 rw[Int.toNat_natCast,List.getD_eq_getElem?_getD,List.getElem?_map,List.getD_eq_getElem?_getD]
 rw[List.getElem?_eq_getElem (by omega)]
 rfl
theorem EE:tD qL=bE dF:=rfl
attribute [local irreducible] bE jE y9 Aw gZ kZ cH grp kv tD eD qL
theorem IZ (la:Bool) (ru:Nat) (h:ru≤63):(gZ la (ru:Int)=[]∧ACalls (cxg gl) 240 [B la,I (ru:Int)] [] (fun r H=>r = .d .aY∧H=[])) ∨
  ACalls (cxg gl) 240 [B la,I (ru:Int)] [] (fun r H=>r = .own 1 (bE (gZ la ru)) 0∧H=[.front 9 1 (bE (gZ la ru)).length]):=by
 by_cases hr:((nP la).length:Int)≤ru
 ·refine .inl ⟨?_,zq la ru (by omega) hr⟩
  unfold gZ
  rw[if_pos (by omega)]
 ·exact .inr (wu la ru (by omega) (by omega))
end Tc
namespace Tc
open Go Bt
attribute [local irreducible] aa ACalls
variable {gl:List (Nat×List D)}
theorem kL (rows:List (List UInt8)):∀(Dg w:List UInt8),(cV rows Dg w).2.1=0→(cV rows Dg w).2.2≤w.length+Dg.length
 |[],w,h=>by simp[cV]at h
 |x::r,w,h=>by
  rw[cV]at h ⊢
  unfold iH at h ⊢
  cases hf:gu (w++[x]) rows 0 with
  |some i=>rw[hf]at h;simp
  |none =>
   rw[hf]at h
   simp only at h ⊢
   by_cases ha:rows.any (fun r=>(w++[x]).isPrefixOf r)=true
   ·rw[if_pos ha]at h ⊢
    have:=kL rows r (w++[x]) h
    simp at this ⊢;omega
   ·rw[if_neg ha]at h
    simp at h
theorem EG {v:Int} {n:Nat} {b a:Int} {c:Nat} (h:vk v n b = .done a c) (ha:a = -1):c=7:=by
 unfold vk at h
 by_cases he:n=7∧2*v+b=3
 ·rw[if_pos he]at h
  injection h with h1 h2
  exact h2.symm
 ·rw[if_neg he]at h
  generalize qE (2*v+b) n=fr at h
  by_cases hf:0≤fr.1
  ·simp only[if_pos hf]at h
   injection h with h1 h2
   omega
  ·simp only[if_neg hf]at h
   by_cases hm:fr.2=false
   ·simp[hm]at h
   ·simp[hm]at h
theorem Au:∀(B:List Int) (v:Int) (n:Nat),(jM B v n).1 = -1→(jM B v n).2.1=0→(jM B v n).2.2=7
 |[],v,n,h,h2=>by simp[jM]at h
 |b::r,v,n,h,h2=>by
  rw[jM]at h h2 ⊢
  cases hs:vk v n b with
  |done a c =>
   rw[hs]at h
   exact EG hs h
  |fail=>rw[hs]at h;simp at h
  |next v' =>
   rw[hs]at h h2
   exact Au r _ _ h h2
theorem FG (s:List UInt8) (q:Nat) (h:q<8*s.length):(aS s)[q]?=some (bM (dz s (q:Int))):=by
 have h1:=iW s q
 rw[fO s q h]at h1
 have h2:=congrArg (fun l=>l[0]?) h1
 simpa using h2
theorem vo (b:Int) (h:b=0∨b=1):((bM b).toNat:Int)=48+b∧bZ (bM b)=true:=by
 rcases h with rfl|rfl<;>decide
theorem yG (s:List UInt8) (q:Nat) (h:q<8*s.length):bt (aS s) q=48+dz s (q:Int):=by
 have hb:=jw s (q:Int)
 unfold bt
 rw[List.getD_eq_getElem?_getD,FG s q h]
 exact (vo _ (by omega)).1
theorem mJ (s:List UInt8) (q n:Nat):((aS s).take (q+n)).drop q=((ak s q).take n).map bM:=by
 rw[List.drop_take,iW,Nat.add_sub_cancel_left,List.map_take]
theorem jZ:∀l:List Int,(∀b∈l,b=0∨b=1)→gH (l.map bM)=nB l:=by
 intro l
 refine lY (P:=fun l=>(∀b∈l,b=0∨b=1)→gH (l.map bM)=nB l) (fun _=>rfl) (fun l b ih h=>?_) l
 rw[List.map_append,List.map_cons,List.map_nil,kO,iz,ih fun x hx=>h x (by simp[hx])]
 have:=(vo b (h b (by simp))).1
 omega
theorem all_map (l:List Int) (h:∀b∈l,b=0∨b=1):(l.map bM).all bZ=true:=by
 rw[List.all_eq_true]
 intro x hx
 obtain⟨b,hb,rfl⟩:=List.mem_map.1 hx
 exact (vo b (h b hb)).2
theorem mO (a b:List Int):nB (a++b)=nB a*2^b.length+nB b:=by
 refine lY (P:=fun b=>nB (a++b)=nB a*2^b.length+nB b) (by simp[nB]) (fun l x ih=>?_) b
 rw[←List.append_assoc,iz,iz,ih,List.length_append,List.length_singleton,Int.pow_succ,Int.mul_add,←Int.mul_assoc]
 have:2*nB a*2^l.length=nB a*(2^l.length*2):=by rw[Int.mul_comm 2,Int.mul_assoc,Int.mul_comm 2,]
 omega
theorem Hs (b0 n6 n8:Int) (h0:b0=0∨b0=1) (h6:0≤n6∧n6<64) (h8:0≤n8∧n8<256):dY ((b0*64+n6)*256+n8)=⟨decide (48+b0=49),n6,if 127<n8 then n8 - 256 else n8⟩:=by
 unfold dY
 have e1:((b0*64+n6)*256+n8) / 2^14=b0:=by omega
 have e2:((b0*64+n6)*256+n8) / 2^8=b0*64+n6:=by omega
 have e3:((b0*64+n6)*256+n8)%256=n8:=by omega
 have e4:((((b0*64+n6).toNat &&& (63:Int).toNat:Nat):Int))=n6:=by rw[KA];omega
 have e5:(if 128≤n8 then n8 - 256 else n8)=(if 127<n8 then n8 - 256 else n8):=by
  by_cases h:127<n8
  ·rw[if_pos h,if_pos (by omega)]
  ·rw[if_neg h,if_neg (by omega)]
 have e6:decide (b0=1)=decide (48+b0=49):=by rw[decide_eq_decide];omega
 rw[e1,e2,e3,e4,←e5,←e6]
theorem wL {e:Ev} (h:evR e=true):decide (kZ e.last e.run (mE e.level)=[])=!decide (0≤dE e.last e.run (max e.level (-e.level))):=by
 have hb:(0≤e.run∧e.run≤63)∧e.level≠0 ∧ -127≤e.level∧e.level≤127:=of_decide_eq_true h
 have ab:=DK hb.2
 rw[←Kb]
 by_cases hm:eP e.last e.run<mE e.level
 ·obtain⟨t1,t2⟩:=MV e.last e.run (mE e.level) hb.1 hm
  rw[t1,t2];rfl
 ·obtain⟨t1,t2,t3⟩:=KS e.last e.run (mE e.level) hb.1 ab.1 hm
  rw[decide_eq_false t3,decide_eq_true t1.1];rfl
end Tc
end Go.Proofs.YtbpednchkndocaaGreatDoor.Av
