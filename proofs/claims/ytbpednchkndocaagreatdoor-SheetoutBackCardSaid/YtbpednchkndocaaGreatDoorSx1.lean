/- A sheet's digits behind others: digits ahead up to a byte, then the sheet's own; where digits stand in a packed text; no program. -/
import Derived.Test.YtbpednchkndocaaGreatDoorSb2
import Derived.Test.YtbpednchkndocaaGreatDoorPy8
import Derived.Test.YtbpednchkndocaaGreatDoorCo1
import Derived.Test.YtbpednchkndocaaGreatDoorPn5
set_option linter.unusedVariables false
set_option linter.unusedSimpArgs false
set_option maxRecDepth 100000
set_option maxHeartbeats 64000000
namespace Go.Proofs.YtbpednchkndocaaGreatDoor.Av
namespace Si
open Go Bt Sh Co Ci Tc Wr
theorem xb(n k:Nat):Bt.bE (n+(Bt.bE n+k))=Bt.bE k:=by unfold Bt.bE;omega
theorem Ck(h:Hd)(rs:List Rw)(n:Nat):∀i,dG h rs n i=zs (Bt.bE n)++dG h rs 0 i
 |0=>by
  simp only[dG];have e:zs (Bt.bE 0)=[]:=rfl;rw[e,List.nil_append]
 | i + 1 => by
  have ih:=Ck h rs n i;cases hr:rs[i]? with
  |none=>simp only[dG,hr];exact ih
  |some r =>
   rw[kN hr,kN hr,ih];unfold dL;have e:(zs (Bt.bE n)++dG h rs 0 i).length=Bt.bE n+(dG h rs 0 i).length:=by rw[List.length_append];unfold zs;rw[List.length_replicate]
   rw[e,xb,Nat.zero_add];split
   ·simp only[List.append_assoc]
   ·simp only[List.append_assoc]
theorem oD(h:Hd)(rs:List Rw)(z:Int)(n:Nat):aS h rs z n=zs (Bt.bE n)++aS h rs z 0:=by
 unfold aS;have e:(zs (Bt.bE n)++dG h rs 0 rs.length).length=Bt.bE n+(dG h rs 0 rs.length).length:=by rw[List.length_append];unfold zs;rw[List.length_replicate]
 rw[Ck h rs n,e,xb,Nat.zero_add];simp only[List.append_assoc]
theorem vq:∀(l:List UInt8),l.all bB=true→(l.map und).map cn=l
 |[],_=>rfl
 |c::l,h=>by
  rw[List.all_cons,Bool.and_eq_true]at h;rw[List.map_cons,List.map_cons,(Rn.A9 c h.1).1,vq l h.2]
theorem Dm(X w:List UInt8)(h:(X++w).all bB=true):Ats (bJ (X++w)) X.length w:=by
 have hw:w.all bB=true:=by rw[List.all_append,Bool.and_eq_true]at h;exact h.2
 have h1:=dM (bJ (X++w)) 0 X.length;rw[Nat.zero_add,EI _ h,dC,List.map_append,List.map_append,List.append_assoc,List.drop_left' (by rw[List.length_map])]at h1;refine⟨?_,?_⟩
 ·rw[dY,List.length_append];omega
 ·unfold W;rw[Nat.add_sub_cancel_left,←h1,List.take_left' (by rw[List.length_map]),vq w hw]
theorem pM(h:Hd)(rs:List Rw)(z:Int):∃t,aS h rs z 0=gK 0++t:=by
 obtain⟨t,ht⟩:=sV h rs 0 0 rs.length;rw[Nat.zero_add]at ht;unfold aS;rw[ht];have e:dG h rs 0 0=bY h:=by simp only[dG];rfl
 rw[e];unfold Sh.bY;exact⟨_,by simp only[List.append_assoc];rfl⟩
theorem Ip{w:List UInt8}{n:Nat}{ha hb:Hd}{ra rb:List Rw}{za zb:Int}(hn:w.length=n)(hw:w.all bB=true)
  (fa:ib ha ra za=true) (va:eH ha.fmt (cellsOf ra) (cellsOf ra).length=true) (fb:ib hb rb zb=true) (vb:eH hb.fmt (cellsOf rb) (cellsOf rb).length=true)
  (da:(aS ha ra za 0).all bB=true) (db:(aS hb rb zb 0).all bB=true) :
  shX (bJ (w++aS ha ra za n++aS hb rb zb (n+(aS ha ra za n).length))) (n+Bt.bE n)=(ha,ra,za.toNat,0,n+Bt.bE n+(aS ha ra za 0).length) ∧
  shX (bJ (w++aS ha ra za n++aS hb rb zb (n+(aS ha ra za n).length))) (n+Bt.bE n+(aS ha ra za 0).length)=(hb,rb,zb.toNat,0,n+Bt.bE n+(aS ha ra za 0).length+(aS hb rb zb 0).length) ∧
  8*(bJ (w++aS ha ra za n++aS hb rb zb (n+(aS ha ra za n).length))).length=n+Bt.bE n+(aS ha ra za 0).length+(aS hb rb zb 0).length:=by
 have ea:=oD ha ra za n;have la8:=oF ha ra za;have lb8:=oF hb rb zb;have p8:=jK n;have zl:(zs (Bt.bE n)).length=Bt.bE n:=by unfold zs;rw[List.length_replicate]
 have eb:aS hb rb zb (n+(aS ha ra za n).length)=aS hb rb zb 0:=by
  rw[oD hb rb zb (n+_),ea,List.length_append,zl,xb];have:Bt.bE (aS ha ra za 0).length=0:=by unfold Bt.bE;omega
  rw[this];rfl
 obtain⟨t,ht⟩:=pM hb rb zb;have sb1:=fun (s:List UInt8) (p:Nat) (h8:p%8=0)=>zT (s:=s) (p:=p) h8 fa va
 have sb2:=fun (s:List UInt8) (p:Nat) (h8:p%8=0)=>zT (s:=s) (p:=p) h8 fb vb
 rw[eb,ea];have hmk:∀(s:List UInt8) (p:Nat),Ats s p (aS hb rb zb 0)→(Mk.atB s p).2=0:=fun s p h=>by
  rw[ht]at h;rw[oW h.app.1 (by decide)]
 generalize aS ha ra za 0=A at *;generalize aS hb rb zb 0=B at *;have el:w++(zs (Bt.bE n)++A)++B=(w++zs (Bt.bE n))++(A++B):=by simp only[List.append_assoc]
 rw[el];have hd:((w++zs (Bt.bE n))++(A++B)).all bB=true:=by
  simp only[List.all_append,Bool.and_eq_true];exact⟨⟨hw,(jI _).1⟩,da,db⟩
 have at0:=Dm (w++zs (Bt.bE n)) (A++B) hd;have hX:(w++zs (Bt.bE n)).length=n+Bt.bE n:=by rw[List.length_append,zl,hn]
 have hlen:8*(bJ ((w++zs (Bt.bE n))++(A++B))).length=n+Bt.bE n+A.length+B.length:=by
  rw[dY,List.length_append,hX,List.length_append];omega
 rw[hX]at at0;generalize bJ ((w++zs (Bt.bE n))++(A++B))=s at *;obtain⟨a1,a2⟩:=at0.app;refine⟨sb1 s _ (by omega) a1 (.inr (hmk s _ a2)),sb2 s _ (by omega) a2 (.inl (by omega)),hlen⟩
end Si
namespace Cs
open Go Bt Tc Co
attribute [local irreducible] aa ACalls aW aK bP aT
variable {gl:List (Nat×List D)}
def evB(a b:Ev):Bool:=(a.last==b.last)&&(decide (a.run=b.run)&&(decide (a.level=b.level)&&true))
def kQ:List Ev→List Ev→Bool
 |[],[]=>true
 |a::l,b::m=>evB a b&&kQ l m
 |_,_=>false
theorem KN(a:Ev):evB a a=true:=by simp[evB]
theorem zn:∀l:List Ev,kQ l l=true
 |[]=>rfl
 |a::l=>by rw[kQ,KN,zn l];rfl
theorem CY:∀l m:List Ev,l.length≠m.length→kQ l m=false
 |[],[],h=>absurd rfl h
 |[],_::_,_=>rfl
 |_::_,[],_=>rfl
 |a::l,b::m,h=>by rw[kQ,CY l m (by simpa using h),Bool.and_false]
theorem HB(l m:List Ev)(i:Nat)(a b:Ev)(h1:l[i]?=some a)(h2:m[i]?=some b):kQ (l.drop i) (m.drop i)=(evB a b&&kQ (l.drop (i+1)) (m.drop (i+1))):=by
 rw[tX l i a h1,tX m i b h2,kQ]
attribute [local irreducible] Tc.bS
theorem nM(l m:List Ev)(hl:l.length≤1000000000000)(hm:m.length≤1000000000000):ACalls (cxg gl) 217 [.d (evS l), .d (evS m)] [] (fun r H=>r=B (kQ l m)∧H=[]):=by
 have el:=fS l;have em:=fS m;by_cases hlen:l.length=m.length
 ·refine ACalls.en Tryz.func217 Tryz.ntmps217 ?_;repeat (first|refine aa.aF ?_|refine aa.q'k true ?_|refine aa.MJ true ?_|refine aa.aV ?_|refine aa.ah ?_|refine aa.ae ?_|refine aa.aQ ?_|refine aa.bX ?_)
  refine aa.weak (env':=[(13,I ((0:Nat):Int)),(12,I ((bS l).length:Int)),(1, .d (evS m)),(0, .d (evS l))]) ⟨rfl,rfl,rfl,rfl,trivial⟩ ?_;refine aa.loop (fun w env H=>∃i:Nat,w=l.length-i∧i≤l.length∧kQ (l.drop i) (m.drop i)=kQ l m∧env=[(13,I (i:Int)),(12,I ((bS l).length:Int)),(1, .d (evS m)),(0, .d (evS l))]∧H=[]) l.length
   ⟨0,rfl,by omega,rfl,rfl,rfl⟩ ?_
  rintro w env H ⟨i,rfl,hi,hd,rfl,rfl⟩;rcases Nat.lt_or_ge i l.length with hlt|hge
  ·have h1:l[i]?=some l[i]:=List.getElem?_eq_getElem hlt;have h2:m[i]?=some m[i]:=List.getElem?_eq_getElem (by omega);generalize l[i]=a at *;generalize m[i]=b at *;rw[HB l m i a b h1 h2]at hd;have g1:=fun (ti:TI) (ha:ti.agg=true) (hs:ti.size=3)=>qP ti ha hs l i a h1
   have g2:=fun (ti:TI) (ha:ti.agg=true) (hs:ti.size=3)=>qP ti ha hs m i b h2
   obtain⟨la,ru,le⟩:=a;obtain⟨lb,rv,lf⟩:=b;unfold evB at hd;simp only at hd;cases hE:((la==lb)&&(decide (ru=rv)&&(decide (le=lf)&&true)))with
   | true =>
    rw[hE,Bool.true_and]at hd;repeat' (first|refine aa.aF ?_|refine aa.q'l true ?_|refine aa.MI true ?_|refine aa.aV ?_|refine aa.ah ?_|refine aa.ae ?_|(apply aa.cBT;rfl;first|(simp only[bT];omega)|(rw[hE];rfl))|(apply aa.cBF;rfl;first|(simp only[bF];omega)|exact ndF rfl|(rw[hE];rfl))|(apply aa.vM;(iterate 6 rfl);exact g1 _ rfl rfl)|(apply aa.vM;(iterate 6 rfl);exact g2 _ rfl rfl)|(apply aa.yj;((apply sJ;(iterate 6 rfl);kernel_rfl));rfl;rfl;rfl)|intro _|refine aa.aA ?_|refine aa.aP ?_|refine aa.aJ ?_)
    all_goals first
     |exact aa.round [(13,I ((i+1:Nat):Int)),(12,I ((bS l).length:Int)),(1, .d (evS m)),(0, .d (evS l))] (l.length-(i+1)) (by omega) ⟨rfl,rfl,rfl,rfl,trivial⟩ ⟨i+1,rfl,hlt,hd,rfl,rfl⟩
     |omega
   |false =>
    rw[hE,Bool.false_and]at hd;rw[←hd];repeat' (first|refine aa.aF ?_|refine aa.q'l true ?_|refine aa.MI true ?_|refine aa.aV ?_|refine aa.ah ?_|refine aa.ae ?_|(apply aa.cBT;rfl;first|(simp only[bT];omega)|(rw[hE];rfl))|(apply aa.cBF;rfl;first|(simp only[bF];omega)|exact ndF rfl|(rw[hE];rfl))|(apply aa.vM;(iterate 6 rfl);exact g1 _ rfl rfl)|(apply aa.vM;(iterate 6 rfl);exact g2 _ rfl rfl)|(apply aa.yj;((apply sJ;(iterate 6 rfl);kernel_rfl));rfl;rfl;rfl)|intro _|refine aa.aA ?_|refine aa.aP ?_|refine aa.aJ ?_)
    all_goals exact Tn
  ·obtain rfl:i=l.length:=by omega
   have ht:kQ l m=true:=by rw[←hd,List.drop_length,hlen,List.drop_length];rfl
   rw[ht];repeat' (first|refine aa.aF ?_|refine aa.q'm true ?_|refine aa.Rv true ?_|refine aa.aV ?_|refine aa.ah ?_|refine aa.ae ?_|refine aa.aQ ?_|refine aa.bX ?_|intro _|refine aa.aA ?_|refine aa.aP ?_|refine aa.aJ ?_)
   all_goals exact Tn
 ·rw[CY l m hlen];refine ACalls.en Tryz.func217 Tryz.ntmps217 ?_;repeat' (first|refine aa.aF ?_|refine aa.q'k true ?_|refine aa.MJ true ?_|refine aa.aV ?_|refine aa.ah ?_|refine aa.ae ?_|refine aa.aQ ?_|refine aa.bX ?_|intro _|refine aa.aA ?_|refine aa.aP ?_|refine aa.aJ ?_)
  all_goals exact Tn
end Cs
namespace Cs
open Go Bt Tc Co
attribute [local irreducible] aa ACalls aW aK bP aT
variable {gl:List (Nat×List D)}
attribute [local irreducible] Tc.bS kQ
end Cs
end Go.Proofs.YtbpednchkndocaaGreatDoor.Av
