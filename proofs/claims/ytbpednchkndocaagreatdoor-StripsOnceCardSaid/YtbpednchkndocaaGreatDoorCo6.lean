/- Cells: Put. -/
import Derived.Test.YtbpednchkndocaaGreatDoorCo4
set_option linter.unusedVariables false
set_option linter.unusedSimpArgs false
set_option maxRecDepth 100000
set_option maxHeartbeats 64000000
namespace Go.Proofs.YtbpednchkndocaaGreatDoor.Av
namespace Co
open Go Bt Tc Wr Bl Mb Cb Mv
attribute [local irreducible] aa ACalls
variable {gl:List (Nat×List D)}
def iL(W:List UInt8)(n:Nat):Prop:=W.all bB=true∧W.length≤n
theorem iL.app{W r:List UInt8}{n m:Nat}(h:iL W n)(k:iL r m):iL (W++r) (n+m):=by
 obtain⟨h1,h2⟩:=h;obtain⟨k1,k2⟩:=k;exact⟨by rw[List.all_append,h1,k1];rfl,by rw[List.length_append];omega⟩
theorem iL.add{W r:List UInt8}{n m:Nat}(h:iL W n)(k:iL r m)(hl:n+m≤100000000):ACalls (cxg gl) 24 [.ptr 0 0,S r] (WO W) (fun x H=>x=I 0∧H=WO (W++r)) :=
 rC W r h.1 k.1 (by have:=h.2;have:=k.2;omega)
theorem Eh:∀j:_root_.Fin 64,(iJ ((j.val:Int)-32)).all bB=true∧(iJ ((j.val:Int)-32)).length≤13:=by decide +kernel
theorem jl(n:Int):iL (iJ (bH n)) 13:=by
 have hb:=iA n;have:=Eh ⟨(bH n+32).toNat,by omega⟩;simp only at this
 rwa [show (((bH n+32).toNat:Nat):Int)-32=bH n by omega]at this
theorem sw(n:Int):iL (lN n) 2:=by
 unfold lN;split
 ·exact⟨rfl,by decide⟩
 split
 ·exact⟨rfl,by decide⟩
 split
 ·exact⟨rfl,by decide⟩
 split
 ·exact⟨rfl,by decide⟩
 ·exact⟨rfl,by decide⟩
theorem Bf(b:Bool)(p:Int)(h:0≤p∧p≤15):iL (iO b p) 6:=⟨(xL b p h).2.2,(xL b p h).2.1⟩
theorem dP{b:Bool}{dc:Int}{l:List Ev}(h:eB b dc l=true):iL (dI b dc l) 2000:=Dj b dc l h
theorem ze{b:Bool}{c:Cel}(hs:0≤c.stuff∧c.stuff≤64)(h:c.skip=true∨gL b c=true):iL (bY b c) 700:=by
 obtain⟨s1,s2⟩:=vk b;obtain⟨k1,k2⟩:=Jo (cA b) s1 c.stuff.toNat;obtain⟨t1,t2⟩:=wJ h;have:c.stuff.toNat*(cA b).length≤64*10:=Nat.mul_le_mul (by omega) s2;unfold bY;exact⟨by rw[List.all_append,k1,t1];rfl,by rw[List.length_append,k2];omega⟩
def mvR(c:Cel)(m p:Int):List UInt8:=if aL c.kind=true then [] else iJ (bH (m-bH p))
def stR(c:Cel):List UInt8:=if dw c.kind=true then lN c.step else []
def putRow(w:List UInt8)(b:Bool)(px py:Int)(c:Cel):List UInt8:=if c.skip=true then w++bY b c else
 ((((((((((w++bY b c)++iO (aL c.kind) (cN c/2^2))++stR c)++mvR c c.mx px)++mvR c c.my py)++dI (aL c.kind) c.d0 c.e0)++dI (aL c.kind) c.d1 c.e1)++dI (aL c.kind) c.d2 c.e2)++dI (aL c.kind) c.d3 c.e3)++dI (aL c.kind) c.d4 c.e4)++dI (aL c.kind) c.d5 c.e5
theorem qG{b:Bool}{c:Cel}(h:dK b c=true):(0≤c.stuff∧c.stuff≤64)∧(c.skip=true∨(c.skip=false∧gL b c=true∧qD c=true∧kW c=true∧mW c=true)):=by
 unfold dK at h;split at h
 ·cases h
 ·rename_i hs;refine⟨by omega,?_⟩;split at h
  ·rename_i hk;exact .inl hk
  ·rename_i hk;simp only[Bool.and_eq_true]at h;exact .inr ⟨by simpa using hk,h.1.1.1,h.1.1.2,h.1.2,h.2⟩
abbrev prD(px py:Int):D := .agg [In px,In py]
attribute [local irreducible] bS bI bJ eD lu cN dK bY iO lN iJ dI eB bH sD
theorem QA(w:List UInt8)(b:Bool)(px py:Int)(c:Cel)(ok:kG c)(hpx:I64 px)(hpy:I64 py)(h:dK b c=true)(hw:iL w 10000000):ACalls (cxg gA) 81 [.ptr 0 0,B b, .d (prD px py), .d (kU c)] (WO w) (fun r H=>r=I 0∧H=WO (putRow w b px py c)):=by
 have rc:=(C9 b c ok).more ia;rw[h]at rc;obtain⟨hs,hcase⟩:=qG h;have hh:c.skip=true∨gL b c=true:=by rcases hcase with h1|h1;exact .inl h1;exact .inr h1.2.1
 have hc:=Et w b c hs hh hw.1 (by have:=hw.2;omega);have f0:=hw.app (ze hs hh);unfold putRow;rcases hcase with hk|⟨hk,hm,hst,hv,hbl⟩
 ·rw[if_pos hk];refine ACalls.en Tryz.func81 Tryz.ntmps81 ?_;repeat' (first|refine aa.aF ?_|refine aa.bh true ?_|refine aa.eP true ?_|refine aa.aj [0,1] (hc) ?_|refine aa.av (rc) ?_|refine aa.aR (rc) ?_|refine aa.aV ?_|refine aa.bC ?_|refine aa.ah ?_|refine aa.ae ?_|refine aa.aB ?_|refine aa.ak ?_|refine aa.aM ?_|refine aa.pu ?_|refine aa.pz ?_|apply aa.di|apply aa.lpU|intro _|refine aa.aA ?_)
  all_goals exact Tp
 ·rw[if_neg (by rw[hk];decide)];have hcd:=kS c;have ic:=AC (gl:=gA) c.kind;have sc:=yC (gl:=gA) c.kind;have cc:=Gp (gl:=gA) c;have cb:=Ob (gl:=gA) (aL c.kind) (cN c/2^2);rw[decide_eq_true (by omega)]at cb;have tc:=E8 (gl:=gA) c.step;unfold mW at hbl;simp only[Bool.and_eq_true]at hbl;obtain⟨⟨⟨⟨⟨b0,b1⟩,b2⟩,b3⟩,b4⟩,b5⟩:=hbl;have f1:=f0.app (Bf (aL c.kind) (cN c/2^2) (by omega));have a0:=f0.add (gl:=gA) (Bf (aL c.kind) (cN c/2^2) (by omega)) (by decide);have w1:=lY (gl:=gA) px hpx;have w2:=lY (gl:=gA) py hpy;have q1:=iA px;have q2:=iA py;unfold stR mvR;rcases Bool.eq_false_or_eq_true (aL c.kind)with hI|hI
  ·rcases Bool.eq_false_or_eq_true (dw c.kind)with hT|hT
   ·have hI2:=hI;have hTT:=hT;have f2:=f1.app (sw c.step);have a1:=f1.add (gl:=gA) (sw c.step) (by decide);have f3:=f2;have f4:=f3
    skip
    rw[if_pos (by rw[hT]),if_pos (by rw[hI]),if_pos (by rw[hI]),List.append_nil,List.append_nil];have p0:=(fQ _ (aL c.kind) c.d0 c.e0 ok.e0.2 b0 f4.1 (by have:=f4.2;omega)).more ia;have f5:=f4.app (dP b0);have p1:=(fQ _ (aL c.kind) c.d1 c.e1 ok.e1.2 b1 f5.1 (by have:=f5.2;omega)).more ia;have f6:=f5.app (dP b1);have p2:=(fQ _ (aL c.kind) c.d2 c.e2 ok.e2.2 b2 f6.1 (by have:=f6.2;omega)).more ia;have f7:=f6.app (dP b2);have p3:=(fQ _ (aL c.kind) c.d3 c.e3 ok.e3.2 b3 f7.1 (by have:=f7.2;omega)).more ia;have f8:=f7.app (dP b3);have p4:=(fQ _ (aL c.kind) c.d4 c.e4 ok.e4.2 b4 f8.1 (by have:=f8.2;omega)).more ia;have f9:=f8.app (dP b4);have p5:=(fQ _ (aL c.kind) c.d5 c.e5 ok.e5.2 b5 f9.1 (by have:=f9.2;omega)).more ia;rw[hI]at ic cb p0 p1 p2 p3 p4 p5 a0 a1  ⊢;rw[hT]at sc;refine ACalls.en Tryz.func81 Tryz.ntmps81 ?_;repeat' (first|refine aa.aF ?_|(refine aa.oP (hs:=[0,1,2,4,5,6,7,8,9,10,11]) (pre:=[3]) (n:=12) ?_;apply PGo.call (ic);rfl;rfl;rfl;rfl;rfl;rfl;rfl;rfl;simp only[ny,nh,Nat.reduceAdd,Nat.reduceSub];apply PGo.nil)|refine aa.bh true ?_|refine aa.eP true ?_|refine aa.aj [0,1] (hc) ?_|refine aa.aj [0,1] (a0) ?_|refine aa.aj [0,1] (a1) ?_|refine aa.aj [0,1] (p0) ?_|refine aa.aj [0,1] (p1) ?_|refine aa.aj [0,1] (p2) ?_|refine aa.aj [0,1] (p3) ?_|refine aa.aj [0,1] (p4) ?_|refine aa.aj [0,1] (p5) ?_|refine aa.av (rc) ?_|refine aa.aR (rc) ?_|refine aa.av (ic) ?_|refine aa.aR (ic) ?_|refine aa.av (sc) ?_|refine aa.aR (sc) ?_|refine aa.av (cc) ?_|refine aa.aR (cc) ?_|refine aa.av (cb) ?_|refine aa.aR (cb) ?_|refine aa.av (tc) ?_|refine aa.aR (tc) ?_|refine aa.av (w1) ?_|refine aa.aR (w1) ?_|refine aa.av (w2) ?_|refine aa.aR (w2) ?_|refine aa.aV ?_|refine aa.bC ?_|refine aa.ah ?_|refine aa.ae ?_|refine aa.aB ?_|refine aa.ak ?_|refine aa.aM ?_|refine aa.pu ?_|refine aa.pz ?_|apply aa.di|apply aa.lpU|intro _|refine aa.aA ?_)
    all_goals exact Tn
   ·have hI2:=hI;have hTT:=hT;have f2:=f1
    skip
    have f3:=f2;have f4:=f3
    skip
    rw[if_neg (by rw[hT];decide),if_pos (by rw[hI]),if_pos (by rw[hI]),List.append_nil,List.append_nil,List.append_nil];have p0:=(fQ _ (aL c.kind) c.d0 c.e0 ok.e0.2 b0 f4.1 (by have:=f4.2;omega)).more ia;have f5:=f4.app (dP b0);have p1:=(fQ _ (aL c.kind) c.d1 c.e1 ok.e1.2 b1 f5.1 (by have:=f5.2;omega)).more ia;have f6:=f5.app (dP b1);have p2:=(fQ _ (aL c.kind) c.d2 c.e2 ok.e2.2 b2 f6.1 (by have:=f6.2;omega)).more ia;have f7:=f6.app (dP b2);have p3:=(fQ _ (aL c.kind) c.d3 c.e3 ok.e3.2 b3 f7.1 (by have:=f7.2;omega)).more ia;have f8:=f7.app (dP b3);have p4:=(fQ _ (aL c.kind) c.d4 c.e4 ok.e4.2 b4 f8.1 (by have:=f8.2;omega)).more ia;have f9:=f8.app (dP b4);have p5:=(fQ _ (aL c.kind) c.d5 c.e5 ok.e5.2 b5 f9.1 (by have:=f9.2;omega)).more ia;rw[hI]at ic cb p0 p1 p2 p3 p4 p5 a0  ⊢;rw[hT]at sc;refine ACalls.en Tryz.func81 Tryz.ntmps81 ?_;repeat' (first|refine aa.aF ?_|(refine aa.oP (hs:=[0,1,2,4,5,6,7,8,9,10,11]) (pre:=[3]) (n:=12) ?_;apply PGo.call (ic);rfl;rfl;rfl;rfl;rfl;rfl;rfl;rfl;simp only[ny,nh,Nat.reduceAdd,Nat.reduceSub];apply PGo.nil)|refine aa.bh true ?_|refine aa.eP true ?_|refine aa.aj [0,1] (hc) ?_|refine aa.aj [0,1] (a0) ?_|refine aa.aj [0,1] (p0) ?_|refine aa.aj [0,1] (p1) ?_|refine aa.aj [0,1] (p2) ?_|refine aa.aj [0,1] (p3) ?_|refine aa.aj [0,1] (p4) ?_|refine aa.aj [0,1] (p5) ?_|refine aa.av (rc) ?_|refine aa.aR (rc) ?_|refine aa.av (ic) ?_|refine aa.aR (ic) ?_|refine aa.av (sc) ?_|refine aa.aR (sc) ?_|refine aa.av (cc) ?_|refine aa.aR (cc) ?_|refine aa.av (cb) ?_|refine aa.aR (cb) ?_|refine aa.av (tc) ?_|refine aa.aR (tc) ?_|refine aa.av (w1) ?_|refine aa.aR (w1) ?_|refine aa.av (w2) ?_|refine aa.aR (w2) ?_|refine aa.aV ?_|refine aa.bC ?_|refine aa.ah ?_|refine aa.ae ?_|refine aa.aB ?_|refine aa.ak ?_|refine aa.aM ?_|refine aa.pu ?_|refine aa.pz ?_|apply aa.di|apply aa.lpU|intro _|refine aa.aA ?_)
    all_goals exact Tn
  ·rcases Bool.eq_false_or_eq_true (dw c.kind)with hT|hT
   ·have hI2:=hI;have hTT:=hT;have f2:=f1.app (sw c.step);have a1:=f1.add (gl:=gA) (sw c.step) (by decide);have f3:=f2.app (jl (c.mx-bH px));have f4:=f3.app (jl (c.my-bH py));have hvv:bH c.mx=c.mx∧bH c.my=c.my:=by
     unfold kW at hv;rw[hI]at hv;simpa using hv
    have v1:=iA c.mx;have v2:=iA c.my;rw[hvv.1]at v1;rw[hvv.2]at v2;have w3:=lY (gl:=gA) (c.mx-bH px) (by omega);have w4:=lY (gl:=gA) (c.my-bH py) (by omega);have m1:=(Au (bH (c.mx-bH px))).more FZ;have m2:=(Au (bH (c.my-bH py))).more FZ;have a2:=f2.add (gl:=gA) (jl (c.mx-bH px)) (by decide);have a3:=f3.add (gl:=gA) (jl (c.my-bH py)) (by decide);rw[if_pos (by rw[hT]),if_neg (by rw[hI];decide),if_neg (by rw[hI];decide)];have p0:=(fQ _ (aL c.kind) c.d0 c.e0 ok.e0.2 b0 f4.1 (by have:=f4.2;omega)).more ia;have f5:=f4.app (dP b0);have p1:=(fQ _ (aL c.kind) c.d1 c.e1 ok.e1.2 b1 f5.1 (by have:=f5.2;omega)).more ia;have f6:=f5.app (dP b1);have p2:=(fQ _ (aL c.kind) c.d2 c.e2 ok.e2.2 b2 f6.1 (by have:=f6.2;omega)).more ia;have f7:=f6.app (dP b2);have p3:=(fQ _ (aL c.kind) c.d3 c.e3 ok.e3.2 b3 f7.1 (by have:=f7.2;omega)).more ia;have f8:=f7.app (dP b3);have p4:=(fQ _ (aL c.kind) c.d4 c.e4 ok.e4.2 b4 f8.1 (by have:=f8.2;omega)).more ia;have f9:=f8.app (dP b4);have p5:=(fQ _ (aL c.kind) c.d5 c.e5 ok.e5.2 b5 f9.1 (by have:=f9.2;omega)).more ia;rw[hI]at ic cb p0 p1 p2 p3 p4 p5 a0 a1 a2 a3  ⊢;rw[hT]at sc;refine ACalls.en Tryz.func81 Tryz.ntmps81 ?_;repeat' (first|refine aa.aF ?_|(refine aa.oP (hs:=[0,1,2,4,5,6,7,8,9,10,11]) (pre:=[3]) (n:=12) ?_;apply PGo.call (ic);rfl;rfl;rfl;rfl;rfl;rfl;rfl;rfl;simp only[ny,nh,Nat.reduceAdd,Nat.reduceSub];apply PGo.nil)|refine aa.bh true ?_|refine aa.eP true ?_|refine aa.aj [0,1] (hc) ?_|refine aa.aj [0,1] (a0) ?_|refine aa.aj [0,1] (a1) ?_|refine aa.aj [0,1] (a2) ?_|refine aa.aj [0,1] (a3) ?_|refine aa.aj [0,1] (p0) ?_|refine aa.aj [0,1] (p1) ?_|refine aa.aj [0,1] (p2) ?_|refine aa.aj [0,1] (p3) ?_|refine aa.aj [0,1] (p4) ?_|refine aa.aj [0,1] (p5) ?_|refine aa.av (rc) ?_|refine aa.aR (rc) ?_|refine aa.av (ic) ?_|refine aa.aR (ic) ?_|refine aa.av (sc) ?_|refine aa.aR (sc) ?_|refine aa.av (cc) ?_|refine aa.aR (cc) ?_|refine aa.av (cb) ?_|refine aa.aR (cb) ?_|refine aa.av (tc) ?_|refine aa.aR (tc) ?_|refine aa.av (w1) ?_|refine aa.aR (w1) ?_|refine aa.av (w2) ?_|refine aa.aR (w2) ?_|refine aa.av (w3) ?_|refine aa.aR (w3) ?_|refine aa.av (w4) ?_|refine aa.aR (w4) ?_|refine aa.av (m1) ?_|refine aa.aR (m1) ?_|refine aa.av (m2) ?_|refine aa.aR (m2) ?_|refine aa.aV ?_|refine aa.bC ?_|refine aa.ah ?_|refine aa.ae ?_|refine aa.aB ?_|refine aa.ak ?_|refine aa.aM ?_|refine aa.pu ?_|refine aa.pz ?_|apply aa.di|apply aa.lpU|intro _|refine aa.aA ?_)
    all_goals exact Tn
   ·have hI2:=hI;have hTT:=hT;have f2:=f1
    skip
    have f3:=f2.app (jl (c.mx-bH px));have f4:=f3.app (jl (c.my-bH py));have hvv:bH c.mx=c.mx∧bH c.my=c.my:=by
     unfold kW at hv;rw[hI]at hv;simpa using hv
    have v1:=iA c.mx;have v2:=iA c.my;rw[hvv.1]at v1;rw[hvv.2]at v2;have w3:=lY (gl:=gA) (c.mx-bH px) (by omega);have w4:=lY (gl:=gA) (c.my-bH py) (by omega);have m1:=(Au (bH (c.mx-bH px))).more FZ;have m2:=(Au (bH (c.my-bH py))).more FZ;have a2:=f2.add (gl:=gA) (jl (c.mx-bH px)) (by decide);have a3:=f3.add (gl:=gA) (jl (c.my-bH py)) (by decide);rw[if_neg (by rw[hT];decide),if_neg (by rw[hI];decide),if_neg (by rw[hI];decide),List.append_nil];have p0:=(fQ _ (aL c.kind) c.d0 c.e0 ok.e0.2 b0 f4.1 (by have:=f4.2;omega)).more ia;have f5:=f4.app (dP b0);have p1:=(fQ _ (aL c.kind) c.d1 c.e1 ok.e1.2 b1 f5.1 (by have:=f5.2;omega)).more ia;have f6:=f5.app (dP b1);have p2:=(fQ _ (aL c.kind) c.d2 c.e2 ok.e2.2 b2 f6.1 (by have:=f6.2;omega)).more ia;have f7:=f6.app (dP b2);have p3:=(fQ _ (aL c.kind) c.d3 c.e3 ok.e3.2 b3 f7.1 (by have:=f7.2;omega)).more ia;have f8:=f7.app (dP b3);have p4:=(fQ _ (aL c.kind) c.d4 c.e4 ok.e4.2 b4 f8.1 (by have:=f8.2;omega)).more ia;have f9:=f8.app (dP b4);have p5:=(fQ _ (aL c.kind) c.d5 c.e5 ok.e5.2 b5 f9.1 (by have:=f9.2;omega)).more ia;rw[hI]at ic cb p0 p1 p2 p3 p4 p5 a0 a2 a3  ⊢;rw[hT]at sc;refine ACalls.en Tryz.func81 Tryz.ntmps81 ?_;repeat' (first|refine aa.aF ?_|(refine aa.oP (hs:=[0,1,2,4,5,6,7,8,9,10,11]) (pre:=[3]) (n:=12) ?_;apply PGo.call (ic);rfl;rfl;rfl;rfl;rfl;rfl;rfl;rfl;simp only[ny,nh,Nat.reduceAdd,Nat.reduceSub];apply PGo.nil)|refine aa.bh true ?_|refine aa.eP true ?_|refine aa.aj [0,1] (hc) ?_|refine aa.aj [0,1] (a0) ?_|refine aa.aj [0,1] (a2) ?_|refine aa.aj [0,1] (a3) ?_|refine aa.aj [0,1] (p0) ?_|refine aa.aj [0,1] (p1) ?_|refine aa.aj [0,1] (p2) ?_|refine aa.aj [0,1] (p3) ?_|refine aa.aj [0,1] (p4) ?_|refine aa.aj [0,1] (p5) ?_|refine aa.av (rc) ?_|refine aa.aR (rc) ?_|refine aa.av (ic) ?_|refine aa.aR (ic) ?_|refine aa.av (sc) ?_|refine aa.aR (sc) ?_|refine aa.av (cc) ?_|refine aa.aR (cc) ?_|refine aa.av (cb) ?_|refine aa.aR (cb) ?_|refine aa.av (tc) ?_|refine aa.aR (tc) ?_|refine aa.av (w1) ?_|refine aa.aR (w1) ?_|refine aa.av (w2) ?_|refine aa.aR (w2) ?_|refine aa.av (w3) ?_|refine aa.aR (w3) ?_|refine aa.av (w4) ?_|refine aa.aR (w4) ?_|refine aa.av (m1) ?_|refine aa.aR (m1) ?_|refine aa.av (m2) ?_|refine aa.aR (m2) ?_|refine aa.aV ?_|refine aa.bC ?_|refine aa.ah ?_|refine aa.ae ?_|refine aa.aB ?_|refine aa.ak ?_|refine aa.aM ?_|refine aa.pu ?_|refine aa.pz ?_|apply aa.di|apply aa.lpU|intro _|refine aa.aA ?_)
    all_goals exact Tn
end Co
end Go.Proofs.YtbpednchkndocaaGreatDoor.Av
