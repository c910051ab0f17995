/- The law SheetoutBack. -/
import Derived.Test.YtbpednchkndocaaGreatDoorPy9
import Derived.Test.YtbpednchkndocaaGreatDoorSr0
set_option linter.unusedVariables false
set_option linter.unusedSimpArgs false
set_option maxRecDepth 100000
set_option maxHeartbeats 64000000
namespace Go.Proofs.YtbpednchkndocaaGreatDoor.Av
namespace Si
open Go Bt Sh Co Ci Tc Wr Sr
attribute [local irreducible] aa ACalls aW aK bP aT cK cF cG
theorem Ew{c:Cel}(h:yn c=true):Cs.uU c:=by
 have:=of_decide_eq_true h;unfold Cs.uU;omega
theorem qf{x:Sx}(hl:gN x.h x.rs=true):Bq x:=by
 unfold gN at hl;simp only[Bool.and_eq_true,decide_eq_true_eq]at hl;obtain⟨⟨⟨h1,h2⟩,h3⟩,h4⟩:=hl;refine⟨h2,by omega,fun r hr=>?_⟩;have h5:=List.all_eq_true.1 h3 r hr;unfold iV at h5;rw[Bool.and_eq_true,decide_eq_true_eq]at h5;exact⟨by omega,fun c hc=>Ew (List.all_eq_true.1 h5.2 c hc)⟩
theorem vn(h:Hd)(rs:List Rw)(z:Int)(n:Nat):(dG h rs n rs.length).length≤(aS h rs z n).length:=by
 unfold aS;simp only[List.length_append];omega
attribute [local irreducible] shX Tc.bS suD bD rsD ib eH aS bJ bI gN sxB dE
theorem vF(a b:Sx)(s:List UInt8)(sa:StI a.h a.rs a.z)(sb:StI b.h b.rs b.z)(hs:s.length≤140737488351232):
  ACalls (cxg gB) 4 [.d (sxD a), .d (sxD b),S s] [] (fun r H=>r=B true∧H=[]):=by
 have lv:ACalls (cxg gB) 22 [] [] (fun r H=>r=B true∧H=[]):=DR;have la:=yX (gl:=gB) a.h a.rs a.z sa;have lb:=yX (gl:=gB) b.h b.rs b.z sb;have ra:=wK a;have rb:=wK b;cases hLa:(gN a.h a.rs&&decide (a.z≤1000))with
 |false =>
  rw[hLa]at la;obtain⟨⟨a1,a2,a3,a4,a5,a6⟩,ar,az⟩:=a;obtain⟨⟨b1,b2,b3,b4,b5,b6⟩,br,bz⟩:=b;simp only at la lb;refine ACalls.en Tryz.func4 Tryz.ntmps4 ?_;repeat' (first|refine aa.aF ?_|refine aa.bh true ?_|refine aa.av (la) ?_|refine aa.av (lv) ?_|refine aa.aB ?_|refine aa.ak ?_|refine aa.aH ?_|refine aa.aM ?_|refine aa.aD ?_|refine aa.au ?_|refine aa.cf ?_|refine aa.bg ?_|refine aa.aQ ?_|refine aa.fI ?_|refine aa.eG ?_|refine aa.aC ?_|intro _|refine aa.aA ?_)
  all_goals exact Tn
 | true =>
  rw[hLa]at la;rw[Bool.and_eq_true,decide_eq_true_eq]at hLa;obtain⟨oka,hla,hca⟩:=qg sa hLa.1;have sha:=qf hLa.1;cases hLb:(gN b.h b.rs&&decide (b.z≤1000))with
  |false =>
   rw[hLb]at lb;obtain⟨⟨a1,a2,a3,a4,a5,a6⟩,ar,az⟩:=a;obtain⟨⟨b1,b2,b3,b4,b5,b6⟩,br,bz⟩:=b;simp only at la lb;refine ACalls.en Tryz.func4 Tryz.ntmps4 ?_;repeat' (first|refine aa.aF ?_|refine aa.bh true ?_|refine aa.av (la) ?_|refine aa.av (lb) ?_|refine aa.av (lv) ?_|refine aa.aB ?_|refine aa.ak ?_|refine aa.aH ?_|refine aa.aM ?_|refine aa.aD ?_|refine aa.au ?_|refine aa.cf ?_|refine aa.bg ?_|refine aa.aQ ?_|refine aa.fI ?_|refine aa.eG ?_|refine aa.aC ?_|intro _|refine aa.aA ?_)
   all_goals exact Tn
  | true =>
   rw[hLb]at lb;rw[Bool.and_eq_true,decide_eq_true_eq]at hLb;obtain⟨okb,hlb,hcb⟩:=qg sb hLb.1;have shb:=qf hLb.1;rcases Nat.lt_or_ge 100 s.length with hlen|hlen
   ·obtain⟨⟨a1,a2,a3,a4,a5,a6⟩,ar,az⟩:=a;obtain⟨⟨b1,b2,b3,b4,b5,b6⟩,br,bz⟩:=b;simp only at la lb;refine ACalls.en Tryz.func4 Tryz.ntmps4 ?_;repeat' (first|refine aa.aF ?_|refine aa.bh true ?_|refine aa.av (la) ?_|refine aa.av (lb) ?_|refine aa.av (lv) ?_|refine aa.aB ?_|refine aa.ak ?_|refine aa.aH ?_|refine aa.aM ?_|refine aa.aD ?_|refine aa.au ?_|refine aa.cf ?_|refine aa.bg ?_|refine aa.aQ ?_|refine aa.fI ?_|refine aa.eG ?_|refine aa.aC ?_|intro _|refine aa.aA ?_)
    all_goals exact Tn
   ·have ca:ACalls (cxg gB) 21 [.d (sxD a)] [] (fun x H=>x=I (dE a.h a.rs a.z)∧H=[]):=(tY a.h a.rs a.z oka hla).more FY;have cb:ACalls (cxg gB) 21 [.d (sxD b)] [] (fun x H=>x=I (dE b.h b.rs b.z)∧H=[]):=(tY b.h b.rs b.z okb hlb).more FY;by_cases hka:dE a.h a.rs a.z=0
    ·by_cases hkb:dE b.h b.rs b.z=0
     ·rw[hka]at ca;rw[hkb]at cb;have nw:=rA (gl:=gB);obtain⟨w0,e0,had,hd,hw⟩:∃(w0:List UInt8) (e0:Int),ACalls (cxg gB) 24 [.ptr 0 0,S s] (WO []) (fun r H=>r=I e0∧H=WO w0)∧w0.all bB=true∧w0.length≤100:=by
       cases hd:s.all bB with
       |true =>
        have ad:=rC (gl:=gB) [] s rfl hd (by simp only[List.length_nil];omega);rw[List.nil_append]at ad;exact⟨s,0,ad,hd,hlen⟩
       |false=>exact⟨[],1,GF (gl:=gB) [] s hd,rfl,by simp⟩
      have ln0:=um (gl:=gB) w0;have fa:=xJ hka;have va:eH a.h.fmt (cellsOf a.rs) (cellsOf a.rs).length=true:=by
       have hk:=hka;unfold dE at hk;rw[if_pos fa]at hk;cases hv:eH a.h.fmt (cellsOf a.rs) (cellsOf a.rs).length with
       |true=>rfl
       |false=>rw[hv,if_neg (by decide)]at hk;cases hk
      have fb:=xJ hkb;have vb:eH b.h.fmt (cellsOf b.rs) (cellsOf b.rs).length=true:=by
       have hk:=hkb;unfold dE at hk;rw[if_pos fb]at hk;cases hv:eH b.h.fmt (cellsOf b.rs) (cellsOf b.rs).length with
       |true=>rfl
       |false=>rw[hv,if_neg (by decide)]at hk;cases hk
      obtain⟨N,hN⟩:∃N,N=w0.length:=⟨_,rfl⟩;have FA:=kY (n:=N) fa hLa.2 hca;have FA0:=kY (n:=0) fa hLa.2 hca;have FB0:=kY (n:=0) fb hLb.2 hcb;have FB:=kY (n:=N+(aS a.h a.rs a.z N).length) fb hLb.2 hcb;have oa:=vn a.h a.rs a.z N;have ob:=vn b.h b.rs b.z (N+(aS a.h a.rs a.z N).length);have za:=(fM fa).2.1;have zb:=(fM fb).2.1;have tb:=Ip (w:=w0) hN.symm hd fa va fb vb FA0.1 FB0.1;have p1:ACalls (cxg gB) 26 [.ptr 0 0, .d (sxD a)] (WO w0) (fun r H=>r=I 0∧H=WO (w0++aS a.h a.rs a.z N)) :=
       mN w0 N a.h a.rs a.z oka hla hka fa ⟨hd,by omega⟩ hN.symm (by have:=FA.2;omega) (by omega)
      have p2:ACalls (cxg gB) 26 [.ptr 0 0, .d (sxD b)] (WO (w0++aS a.h a.rs a.z N)) (fun r H=>r=I 0∧H=WO (w0++aS a.h a.rs a.z N++aS b.h b.rs b.z (N+(aS a.h a.rs a.z N).length))) :=
       mN (w0++aS a.h a.rs a.z N) (N+(aS a.h a.rs a.z N).length) b.h b.rs b.z okb hlb hkb fb ⟨by rw[List.all_append,hd,FA.1];rfl,by rw[List.length_append,hN];omega⟩ (by rw[List.length_append,hN]) (by have:=FA.2;have:=FB.2;omega) (by omega)
      have lw:(w0++aS a.h a.rs a.z N++aS b.h b.rs b.z (N+(aS a.h a.rs a.z N).length)).length≤6000000:=by
       rw[List.length_append,List.length_append];have:=FA.2;have:=FB.2;omega
      clear FA FB oa ob;generalize aS a.h a.rs a.z N=A at *;generalize aS b.h b.rs b.z (N+A.length)=Bb at *;have tx:=zK (gl:=gB) (w0++A++Bb);obtain⟨t1,t2,t3⟩:=tb;have htl:=dY (w0++A++Bb);obtain⟨q,hq⟩:∃q,q=N+Bt.bE N:=⟨_,rfl⟩;rw[←hq]at t1 t2 t3;have hqi:((w0.length:Int)+7)/8*8=(q:Int):=by rw[hq,hN];unfold Bt.bE;omega
      generalize bJ (w0++A++Bb)=T at *;have rn:=Cv (gl:=gB) T;have sk:=gI (gl:=gB) T 0 (((w0.length:Int)+7)/8*8) (by omega) ⟨by omega,by omega⟩;have k1:=wQ T q (by omega) (by omega);rw[t1,←hqi]at k1;have k2:=wQ T (q+(aS a.h a.rs a.z 0).length) (by omega) (by omega);rw[t2]at k2;simp only at k1 k2;have eza:((a.z.toNat:Nat):Int)=a.z:=by omega
      have ezb:((b.z.toNat:Nat):Int)=b.z:=by omega
      rw[eza]at k1;rw[ezb]at k2;have sma:=zQ (gl:=gB) a a sha sha;rw[ra]at sma;have smb:=zQ (gl:=gB) b b shb shb;rw[rb]at smb;have lf:=Mk.Az (gl:=gB) T (q+(aS a.h a.rs a.z 0).length+(aS b.h b.rs b.z 0).length) (by omega) (by omega);have e0:(8*(T.length:Int)-((q+(aS a.h a.rs a.z 0).length+(aS b.h b.rs b.z 0).length:Nat):Int))=0:=by omega
      rw[e0]at lf;generalize (aS a.h a.rs a.z 0).length=LA at *;generalize (aS b.h b.rs b.z 0).length=LB at *;clear t1 t2 ra rb FA0 FB0 va vb fa fb sha shb hLa hLb sa sb oka okb;obtain⟨⟨a1,a2,a3,a4,a5,a6⟩,ar,az⟩:=a;obtain⟨⟨b1,b2,b3,b4,b5,b6⟩,br,bz⟩:=b;simp only at *;refine ACalls.en Tryz.func4 Tryz.ntmps4 ?_;repeat' (first|refine aa.aF ?_|refine aa.bh true ?_|refine aa.aj [] (nw) ?_|refine aa.aj [2,3] (had) ?_|refine aa.aj [2,3] (ln0) ?_|refine aa.aj [2,3] (p1) ?_|refine aa.aj [2,3] (p2) ?_|refine aa.aj [2,3] (tx) ?_|refine aa.aj [] (rn) ?_|refine aa.aj [4] (sk) ?_|refine aa.aj [4] (k1) ?_|refine aa.aj [4] (k2) ?_|refine aa.aj [4] (lf) ?_|refine aa.av (la) ?_|refine aa.av (lb) ?_|refine aa.av (ca) ?_|refine aa.av (cb) ?_|refine aa.av (lv) ?_|refine aa.av (sma) ?_|refine aa.av (smb) ?_|refine aa.aB ?_|refine aa.ak ?_|refine aa.aH ?_|refine aa.aM ?_|refine aa.aD ?_|refine aa.au ?_|refine aa.cf ?_|refine aa.bg ?_|refine aa.aQ ?_|refine aa.fI ?_|refine aa.eG ?_|refine aa.aC ?_|intro _|refine aa.aA ?_)
      all_goals exact Tn
     ·obtain⟨⟨a1,a2,a3,a4,a5,a6⟩,ar,az⟩:=a;obtain⟨⟨b1,b2,b3,b4,b5,b6⟩,br,bz⟩:=b;simp only at la lb ca cb hka hkb;refine ACalls.en Tryz.func4 Tryz.ntmps4 ?_;repeat' (first|refine aa.aF ?_|refine aa.bh true ?_|refine aa.av (la) ?_|refine aa.av (lb) ?_|refine aa.av (ca) ?_|refine aa.av (cb) ?_|refine aa.av (lv) ?_|refine aa.aB ?_|refine aa.ak ?_|refine aa.aH ?_|refine aa.aM ?_|refine aa.aD ?_|refine aa.au ?_|refine aa.cf ?_|refine aa.bg ?_|refine aa.aQ ?_|refine aa.fI ?_|refine aa.eG ?_|refine aa.aC ?_|intro _|refine aa.aA ?_)
      all_goals exact Tn
    ·obtain⟨⟨a1,a2,a3,a4,a5,a6⟩,ar,az⟩:=a;obtain⟨⟨b1,b2,b3,b4,b5,b6⟩,br,bz⟩:=b;simp only at la lb ca cb hka;refine ACalls.en Tryz.func4 Tryz.ntmps4 ?_;repeat' (first|refine aa.aF ?_|refine aa.bh true ?_|refine aa.av (la) ?_|refine aa.av (lb) ?_|refine aa.av (ca) ?_|refine aa.av (lv) ?_|refine aa.aB ?_|refine aa.ak ?_|refine aa.aH ?_|refine aa.aM ?_|refine aa.aD ?_|refine aa.au ?_|refine aa.cf ?_|refine aa.bg ?_|refine aa.aQ ?_|refine aa.fI ?_|refine aa.eG ?_|refine aa.aC ?_|intro _|refine aa.aA ?_)
     all_goals exact Tn
theorem sheetoutBack_law(x y:D)(s:List UInt8)(hx:TyV tys 9 30 x)(hy:TyV tys 9 30 y)(hs:s.length≤140737488351232):
  ACalls (cxg gB) 4 [.d x, .d y,S s] [] (fun r H=>r=B true∧H=[]):=by
 obtain⟨h,rs,z,⟨l,rfl⟩,w,st⟩:=uu 0 x hx;obtain⟨h',rs',z',⟨l',rfl⟩,w',st'⟩:=uu 0 y hy;exact (vF ⟨h,rs,z⟩ ⟨h',rs',z'⟩ s st st' hs).weak ⟨cJ.d (CW.zo w),cJ.d (CW.zo w'),cJ.refl _,trivial⟩
end Si
end Go.Proofs.YtbpednchkndocaaGreatDoor.Av
