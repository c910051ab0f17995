/- Cells are read: cellin's blocks. -/
import Derived.Test.YtbpednchkndocaaGreatDoorPq5
set_option linter.unusedVariables false
set_option linter.unusedSimpArgs false
set_option maxRecDepth 100000
set_option maxHeartbeats 64000000
namespace Go.Proofs.YtbpednchkndocaaGreatDoor.Av
namespace Ci
open Go Bt Tc Co Bl
attribute [local irreducible] aa ACalls aW aK bP aT
variable {gl:List (Nat×List D)}
abbrev evA(l:List Ev):AV := .d (.sl 3 (bS l))
def dcA:Nat→List (Int×List Ev)→List AV
 |0,_=>[]
 |n+1,[]=>I 0::dcA n []
 |n+1,x::r=>I x.1::dcA n r
def HE:Nat→List (Int×List Ev)→List AV
 |0,_=>[]
 |n+1,[] => .d .aU::HE n []
 |n+1,x::r=>evA x.2::HE n r
def EE(st k sp mx my:Int)(L:List (Int×List Ev)):List AV:=[I st,B false,I k,I sp,I mx,I my]++(dcA 6 L++HE 6 L)
theorem OG(v:Int)(h:0≤v∧v≤63)(n:Nat):(0≤v/2^n∧v/2^n≤9223372036854775807)∧(0:Int)≤1∧(1:Int)≤9223372036854775807:=by
 have hp:(0:Int)<2^n:=Int.pow_pos (by decide);have h1:=Int.ediv_le_self (2^n) h.1;have h0:0≤v/2^n:=Int.ediv_nonneg h.1 (by omega);omega
theorem zy(v:Int)(h:0≤v)(i:Nat)(j:Int)(hj:(5-j).toNat=5-i):cB v i=decide ((((v/2^(5-j).toNat).toNat &&& (1:Int).toNat:Nat):Int)=1):=by
 have hp:(0:Int)<2^(5-i):=Int.pow_pos (by decide);have h0:0≤v/2^(5-i):=Int.ediv_nonneg h (by omega);unfold cB;rw[hj,show (1:Int).toNat=1 from rfl,Nat.and_one_is_mod];rw[decide_eq_decide];omega
theorem SG{b c:Bool}{B:List Int}(h:(blX b c B).2.2.1≠0):(blX b c B).1=0∧(blX b c B).2.1=[]∧(blX b c B).2.2.2=0:=by
 unfold blX at h ⊢;by_cases h0:(dc0 b B).2.1≠0
 ·rw[if_pos h0];exact⟨rfl,rfl,rfl⟩
 ·rw[if_neg h0]at h ⊢;cases c with
  |false=>simp at h
  |true =>
   simp only[if_true]at h ⊢;by_cases h1:(gh 66 (B.drop (dc0 b B).2.2) (frm b:Nat)).2.1≠0
   ·rw[if_pos h1];exact⟨rfl,rfl,rfl⟩
   ·rw[if_neg h1]at h;exact absurd rfl h
theorem uS{b c:Bool}{cs:List Bool}{s:List UInt8}{p q:Nat}(h:(blX b c (aG s (p+q))).2.2.1=0):
  bdX b (c::cs) (aG s p) q=(((blX b c (aG s (p+q))).1,(blX b c (aG s (p+q))).2.1)::(bdX b cs (aG s p) (q+(blX b c (aG s (p+q))).2.2.2)).1,(bdX b cs (aG s p) (q+(blX b c (aG s (p+q))).2.2.2)).2):=by
 rw[bdX,dM,if_neg (by simpa using h)]
def bdA(L:List (Int×List Ev))(y:List (Int×List Ev)×Int×Nat):List (Int×List Ev)×Int×Nat:=(L++y.1,y.2)
theorem qV{b c:Bool}{cs:List Bool}{s:List UInt8}{p q:Nat}(h:(blX b c (aG s (p+q))).2.2.1≠0):bdX b (c::cs) (aG s p) q=([],(blX b c (aG s (p+q))).2.2.1,q):=by
 rw[bdX,dM,if_pos h]
theorem xQ(m:Nat):∀(a b:List AV),AV.dF m (a++b)=(AV.dF m a&&AV.dF m b)
 |[],b=>by simp[AV.dF]
 |x::r,b=>by rw[List.cons_append,AV.dF,AV.dF,xQ m r b,Bool.and_assoc]
theorem Bh(m:Nat):∀(n:Nat) (L:List (Int×List Ev)),AV.dF m (dcA n L)=true
 |0,_=>rfl
 |n+1,[]=>by rw[dcA,AV.dF,Bh m n []];rfl
 |n+1,x::r=>by rw[dcA,AV.dF,Bh m n r];rfl
theorem Bg(m:Nat):∀(n:Nat) (L:List (Int×List Ev)),AV.dF m (HE n L)=true
 |0,_=>rfl
 |n+1,[]=>by rw[HE,AV.dF,Bg m n []];rfl
 |n+1,x::r=>by rw[HE,AV.dF,Bg m n r];rfl
theorem ub(st k sp mx my e:Int)(L:List (Int×List Ev))(s:List UInt8)(q:Int):dZ 3 ([Rr 2 e, .cells (EE st k sp mx my L),Rd s q].take 3)=true:=by
 have h:AV.dF 3 (EE st k sp mx my L)=true:=by
  unfold EE;rw[xQ,xQ,Bh,Bg];rfl
 show (aN.bnd 3 (Rr 2 e)&&(AV.dF 3 (EE st k sp mx my L)&&(aN.bnd 3 (Rd s q)&&true)))=true;rw[h];rfl
attribute [local irreducible] blX aG Tc.bS cB
theorem Oc(st k sp mx my v:Int)(s:List UInt8)(p:Nat)(hs:s.length≤1000000)(hp:p≤8*s.length)(hv:0≤v∧v≤63):
  ACalls (cxg gB) 268 [.ptr 0 0, .ptr 1 0,I v] [Rr 2 0, .cells (QJ st k sp mx my),Rd s p]
  (fun r H=>r = .cH []∧H=[Rr 2 (bdX (aL k) (cds v) (aG s p) 0).2.1, .cells (EE st k sp mx my (if (bdX (aL k) (cds v) (aG s p) 0).2.1=0 then (bdX (aL k) (cds v) (aG s p) 0).1 else (bdX (aL k) (cds v) (aG s p) 0).1++[(0,[])])),Rd s ((p+(bdX (aL k) (cds v) (aG s p) 0).2.2:Nat):Int)]):=by
 have ic:=Da (gl:=gB) k;have e00:bS []=[]:=by unfold Tc.bS;rfl
 have bl:=fun c q hq=>SF s q (aL k) c hs hq
 have ble:=fun c q hq=>LC (aL k) c s q hq
 have blu:=fun c q=>@SG (aL k) c (aG s q)
 have w0:=zy v hv.1 0 0 (by decide);have w1:=zy v hv.1 1 1 (by decide);have w2:=zy v hv.1 2 2 (by decide);have w3:=zy v hv.1 3 3 (by decide);have w4:=zy v hv.1 4 4 (by decide);have w5:=zy v hv.1 5 5 (by decide);unfold cds;generalize aL k=b at *;generalize hY:bdX b [cB v 0,cB v 1,cB v 2,cB v 3,cB v 4,cB v 5] (aG s p) 0=Y at *;have hY0:bdA [] (bdX b [cB v 0,cB v 1,cB v 2,cB v 3,cB v 4,cB v 5] (aG s p) 0)=Y:=by rw[hY];rfl
 clear hY;refine ACalls.en Tryz.func268 Tryz.ntmps268 ?_;repeat (first|refine aa.aF ?_|refine aa.bh true ?_|refine aa.ah ?_|refine aa.ae ?_|refine aa.ak ?_|refine aa.aD ?_|refine aa.aQ ?_)
 refine aa.weak (env':=[(7,I 0),(2,I v),(1, .ptr 1 0),(0, .ptr 0 0)]) ⟨rfl,rfl,rfl,rfl,trivial⟩ ?_
 refine aa.loop (fun m env H=>∃(i:Nat) (j e:Int) (q:Nat) (L:List (Int×List Ev)),j=i∧m=7-i∧i≤6∧p+q≤8*s.length ∧
  ((e=0∧L.length=i∧bdA L (bdX b ([cB v 0,cB v 1,cB v 2,cB v 3,cB v 4,cB v 5].drop i) (aG s p) q)=Y)∨(e≠0∧∃L',L=L'++[(0,[])]∧Y=(L',e,q))) ∧
  env=[(7,I j),(2,I v),(1, .ptr 1 0),(0, .ptr 0 0)]∧H=[Rr 2 e, .cells (EE st k sp mx my L),Rd s ((p+q:Nat):Int)]) 7
  ⟨0,0,0,0,[],rfl,rfl,by omega,by omega, .inl ⟨rfl,rfl,hY0⟩,rfl,rfl⟩ ?_
 rintro m env H ⟨i,j,e,q,L,hj,rfl,hi,hq,hc,rfl,rfl⟩;rcases hc with⟨rfl,hL,hY⟩|⟨he,L',rfl,rfl⟩
 ·rcases (show i=0∨i=1∨i=2∨i=3∨i=4∨i=5∨i=6 by omega)with rfl|rfl|rfl|rfl|rfl|rfl|rfl
  ·obtain rfl:j=0:=hj
   match L,hL with
   | [], _ =>
    have bb:=bl (cB v 0) (p+q) hq;have gg:=ble (cB v 0) (p+q) hq;have zz:=blu (cB v 0) (p+q);have oo:=@uS b (cB v 0) ([cB v 0,cB v 1,cB v 2,cB v 3,cB v 4,cB v 5].drop 1) s p q;have xx:=@qV b (cB v 0) ([cB v 0,cB v 1,cB v 2,cB v 3,cB v 4,cB v 5].drop 1) s p q;rw[show [cB v 0,cB v 1,cB v 2,cB v 3,cB v 4,cB v 5].drop 0=cB v 0::[cB v 0,cB v 1,cB v 2,cB v 3,cB v 4,cB v 5].drop 1 from rfl]at hY;generalize blX b (cB v 0) (aG s (p+q))=y at *;obtain⟨d,l,er,u⟩:=y;simp only at bb gg zz oo xx;rw[w0]at bb;by_cases h:er=0
    ·subst h;rw[oo rfl]at hY;rw[Nat.add_assoc]at bb;repeat' (first|refine aa.aF ?_|(apply aa.gu [0,1,2,3,4,5,6,7,8,9,10,11,12,13,14,15,16,17,18,19,20,21,22,23,24,25,26,27,28,29,30,31,32,33,34,35,36] 37;rfl)|refine aT.cL ?_|(apply aT.go)|refine aT.lH true ?_|refine aT.gq ?_|(apply aT.two;rfl;rfl;rfl;kernel_rfl)|(exact aa.fg)|(refine aa.bv ?_;rfl)|refine aa.q'h true ?_|refine aa.aj [2] (bb) ?_|refine aa.av (ic) ?_|refine aa.ah ?_|refine aa.ae ?_|refine aa.ak ?_|refine aa.aD ?_|refine aa.aQ ?_|intro _|(apply aa.cZ ;rfl)|refine aa.aP ?_|refine aa.aJ ?_)
     all_goals first
      |exact aa.round [(7,I 1),(2,I v),(1, .ptr 1 0),(0, .ptr 0 0)] (7-1) (by omega) ⟨rfl,rfl,rfl,rfl,trivial⟩ ⟨1,1,0,q+u,[(d,l)],rfl,rfl,by omega,by omega, .inl ⟨rfl,rfl,by rw[←hY];rfl⟩,rfl,rfl⟩
      |omega
    ·obtain⟨rfl,rfl,rfl⟩:=zz h;rw[xx h]at hY;rw[Nat.add_zero]at bb;repeat' (first|refine aa.aF ?_|(apply aa.gu [0,1,2,3,4,5,6,7,8,9,10,11,12,13,14,15,16,17,18,19,20,21,22,23,24,25,26,27,28,29,30,31,32,33,34,35,36] 37;rfl)|refine aT.cL ?_|(apply aT.go)|refine aT.lH true ?_|refine aT.gq ?_|(apply aT.two;rfl;rfl;rfl;kernel_rfl)|(exact aa.fg)|(refine aa.bv ?_;rfl)|refine aa.q'h true ?_|refine aa.aj [2] (bb) ?_|refine aa.av (ic) ?_|refine aa.ah ?_|refine aa.ae ?_|refine aa.ak ?_|refine aa.aD ?_|refine aa.aQ ?_|intro _|(apply aa.cZ ;rfl)|refine aa.aP ?_|refine aa.aJ ?_)
     all_goals first
      |exact aa.round [(7,I 1),(2,I v),(1, .ptr 1 0),(0, .ptr 0 0)] (7-1) (by omega) ⟨rfl,rfl,rfl,rfl,trivial⟩ ⟨1,1,er,q,[]++[(0,[])],rfl,rfl,by omega,hq, .inr ⟨h,[],rfl,by rw[←hY];rfl⟩,rfl,rfl⟩
      |omega
  ·obtain rfl:j=1:=hj
   match L,hL with
   | [t0], _ =>
    have bb:=bl (cB v 1) (p+q) hq;have gg:=ble (cB v 1) (p+q) hq;have zz:=blu (cB v 1) (p+q);have oo:=@uS b (cB v 1) ([cB v 0,cB v 1,cB v 2,cB v 3,cB v 4,cB v 5].drop 2) s p q;have xx:=@qV b (cB v 1) ([cB v 0,cB v 1,cB v 2,cB v 3,cB v 4,cB v 5].drop 2) s p q;rw[show [cB v 0,cB v 1,cB v 2,cB v 3,cB v 4,cB v 5].drop 1=cB v 1::[cB v 0,cB v 1,cB v 2,cB v 3,cB v 4,cB v 5].drop 2 from rfl]at hY;generalize blX b (cB v 1) (aG s (p+q))=y at *;obtain⟨d,l,er,u⟩:=y;simp only at bb gg zz oo xx;rw[w1]at bb;by_cases h:er=0
    ·subst h;rw[oo rfl]at hY;rw[Nat.add_assoc]at bb;repeat' (first|refine aa.aF ?_|(apply aa.gu [0,1,2,3,4,5,6,7,8,9,10,11,12,13,14,15,16,17,18,19,20,21,22,23,24,25,26,27,28,29,30,31,32,33,34,35,36] 37;rfl)|refine aT.cL ?_|(apply aT.go)|refine aT.lH true ?_|refine aT.gq ?_|(apply aT.two;rfl;rfl;rfl;kernel_rfl)|(exact aa.fg)|(refine aa.bv ?_;rfl)|refine aa.q'h true ?_|refine aa.aj [2] (bb) ?_|refine aa.av (ic) ?_|refine aa.ah ?_|refine aa.ae ?_|refine aa.ak ?_|refine aa.aD ?_|refine aa.aQ ?_|intro _|(apply aa.cZ ;rfl)|refine aa.aP ?_|refine aa.aJ ?_)
     all_goals first
      |exact aa.round [(7,I 2),(2,I v),(1, .ptr 1 0),(0, .ptr 0 0)] (7-2) (by omega) ⟨rfl,rfl,rfl,rfl,trivial⟩ ⟨2,2,0,q+u,[t0,(d,l)],rfl,rfl,by omega,by omega, .inl ⟨rfl,rfl,by rw[←hY];rfl⟩,rfl,rfl⟩
      |omega
    ·obtain⟨rfl,rfl,rfl⟩:=zz h;rw[xx h]at hY;rw[Nat.add_zero]at bb;repeat' (first|refine aa.aF ?_|(apply aa.gu [0,1,2,3,4,5,6,7,8,9,10,11,12,13,14,15,16,17,18,19,20,21,22,23,24,25,26,27,28,29,30,31,32,33,34,35,36] 37;rfl)|refine aT.cL ?_|(apply aT.go)|refine aT.lH true ?_|refine aT.gq ?_|(apply aT.two;rfl;rfl;rfl;kernel_rfl)|(exact aa.fg)|(refine aa.bv ?_;rfl)|refine aa.q'h true ?_|refine aa.aj [2] (bb) ?_|refine aa.av (ic) ?_|refine aa.ah ?_|refine aa.ae ?_|refine aa.ak ?_|refine aa.aD ?_|refine aa.aQ ?_|intro _|(apply aa.cZ ;rfl)|refine aa.aP ?_|refine aa.aJ ?_)
     all_goals first
      |exact aa.round [(7,I 2),(2,I v),(1, .ptr 1 0),(0, .ptr 0 0)] (7-2) (by omega) ⟨rfl,rfl,rfl,rfl,trivial⟩ ⟨2,2,er,q,[t0]++[(0,[])],rfl,rfl,by omega,hq, .inr ⟨h,[t0],rfl,by rw[←hY];rfl⟩,rfl,rfl⟩
      |omega
  ·obtain rfl:j=2:=hj
   match L,hL with
   | [t0, t1], _ =>
    have bb:=bl (cB v 2) (p+q) hq;have gg:=ble (cB v 2) (p+q) hq;have zz:=blu (cB v 2) (p+q);have oo:=@uS b (cB v 2) ([cB v 0,cB v 1,cB v 2,cB v 3,cB v 4,cB v 5].drop 3) s p q;have xx:=@qV b (cB v 2) ([cB v 0,cB v 1,cB v 2,cB v 3,cB v 4,cB v 5].drop 3) s p q;rw[show [cB v 0,cB v 1,cB v 2,cB v 3,cB v 4,cB v 5].drop 2=cB v 2::[cB v 0,cB v 1,cB v 2,cB v 3,cB v 4,cB v 5].drop 3 from rfl]at hY;generalize blX b (cB v 2) (aG s (p+q))=y at *;obtain⟨d,l,er,u⟩:=y;simp only at bb gg zz oo xx;rw[w2]at bb;by_cases h:er=0
    ·subst h;rw[oo rfl]at hY;rw[Nat.add_assoc]at bb;repeat' (first|refine aa.aF ?_|(apply aa.gu [0,1,2,3,4,5,6,7,8,9,10,11,12,13,14,15,16,17,18,19,20,21,22,23,24,25,26,27,28,29,30,31,32,33,34,35,36] 37;rfl)|refine aT.cL ?_|(apply aT.go)|refine aT.lH true ?_|refine aT.gq ?_|(apply aT.two;rfl;rfl;rfl;kernel_rfl)|(exact aa.fg)|(refine aa.bv ?_;rfl)|refine aa.q'h true ?_|refine aa.aj [2] (bb) ?_|refine aa.av (ic) ?_|refine aa.ah ?_|refine aa.ae ?_|refine aa.ak ?_|refine aa.aD ?_|refine aa.aQ ?_|intro _|(apply aa.cZ ;rfl)|refine aa.aP ?_|refine aa.aJ ?_)
     all_goals first
      |exact aa.round [(7,I 3),(2,I v),(1, .ptr 1 0),(0, .ptr 0 0)] (7-3) (by omega) ⟨rfl,rfl,rfl,rfl,trivial⟩ ⟨3,3,0,q+u,[t0,t1,(d,l)],rfl,rfl,by omega,by omega, .inl ⟨rfl,rfl,by rw[←hY];rfl⟩,rfl,rfl⟩
      |omega
    ·obtain⟨rfl,rfl,rfl⟩:=zz h;rw[xx h]at hY;rw[Nat.add_zero]at bb;repeat' (first|refine aa.aF ?_|(apply aa.gu [0,1,2,3,4,5,6,7,8,9,10,11,12,13,14,15,16,17,18,19,20,21,22,23,24,25,26,27,28,29,30,31,32,33,34,35,36] 37;rfl)|refine aT.cL ?_|(apply aT.go)|refine aT.lH true ?_|refine aT.gq ?_|(apply aT.two;rfl;rfl;rfl;kernel_rfl)|(exact aa.fg)|(refine aa.bv ?_;rfl)|refine aa.q'h true ?_|refine aa.aj [2] (bb) ?_|refine aa.av (ic) ?_|refine aa.ah ?_|refine aa.ae ?_|refine aa.ak ?_|refine aa.aD ?_|refine aa.aQ ?_|intro _|(apply aa.cZ ;rfl)|refine aa.aP ?_|refine aa.aJ ?_)
     all_goals first
      |exact aa.round [(7,I 3),(2,I v),(1, .ptr 1 0),(0, .ptr 0 0)] (7-3) (by omega) ⟨rfl,rfl,rfl,rfl,trivial⟩ ⟨3,3,er,q,[t0,t1]++[(0,[])],rfl,rfl,by omega,hq, .inr ⟨h,[t0,t1],rfl,by rw[←hY];rfl⟩,rfl,rfl⟩
      |omega
  ·obtain rfl:j=3:=hj
   match L,hL with
   | [t0, t1, t2], _ =>
    have bb:=bl (cB v 3) (p+q) hq;have gg:=ble (cB v 3) (p+q) hq;have zz:=blu (cB v 3) (p+q);have oo:=@uS b (cB v 3) ([cB v 0,cB v 1,cB v 2,cB v 3,cB v 4,cB v 5].drop 4) s p q;have xx:=@qV b (cB v 3) ([cB v 0,cB v 1,cB v 2,cB v 3,cB v 4,cB v 5].drop 4) s p q;rw[show [cB v 0,cB v 1,cB v 2,cB v 3,cB v 4,cB v 5].drop 3=cB v 3::[cB v 0,cB v 1,cB v 2,cB v 3,cB v 4,cB v 5].drop 4 from rfl]at hY;generalize blX b (cB v 3) (aG s (p+q))=y at *;obtain⟨d,l,er,u⟩:=y;simp only at bb gg zz oo xx;rw[w3]at bb;by_cases h:er=0
    ·subst h;rw[oo rfl]at hY;rw[Nat.add_assoc]at bb;repeat' (first|refine aa.aF ?_|(apply aa.gu [0,1,2,3,4,5,6,7,8,9,10,11,12,13,14,15,16,17,18,19,20,21,22,23,24,25,26,27,28,29,30,31,32,33,34,35,36] 37;rfl)|refine aT.cL ?_|(apply aT.go)|refine aT.lH true ?_|refine aT.gq ?_|(apply aT.two;rfl;rfl;rfl;kernel_rfl)|(exact aa.fg)|(refine aa.bv ?_;rfl)|refine aa.q'h true ?_|refine aa.aj [2] (bb) ?_|refine aa.av (ic) ?_|refine aa.ah ?_|refine aa.ae ?_|refine aa.ak ?_|refine aa.aD ?_|refine aa.aQ ?_|intro _|(apply aa.cZ ;rfl)|refine aa.aP ?_|refine aa.aJ ?_)
     all_goals first
      |exact aa.round [(7,I 4),(2,I v),(1, .ptr 1 0),(0, .ptr 0 0)] (7-4) (by omega) ⟨rfl,rfl,rfl,rfl,trivial⟩ ⟨4,4,0,q+u,[t0,t1,t2,(d,l)],rfl,rfl,by omega,by omega, .inl ⟨rfl,rfl,by rw[←hY];rfl⟩,rfl,rfl⟩
      |omega
    ·obtain⟨rfl,rfl,rfl⟩:=zz h;rw[xx h]at hY;rw[Nat.add_zero]at bb;repeat' (first|refine aa.aF ?_|(apply aa.gu [0,1,2,3,4,5,6,7,8,9,10,11,12,13,14,15,16,17,18,19,20,21,22,23,24,25,26,27,28,29,30,31,32,33,34,35,36] 37;rfl)|refine aT.cL ?_|(apply aT.go)|refine aT.lH true ?_|refine aT.gq ?_|(apply aT.two;rfl;rfl;rfl;kernel_rfl)|(exact aa.fg)|(refine aa.bv ?_;rfl)|refine aa.q'h true ?_|refine aa.aj [2] (bb) ?_|refine aa.av (ic) ?_|refine aa.ah ?_|refine aa.ae ?_|refine aa.ak ?_|refine aa.aD ?_|refine aa.aQ ?_|intro _|(apply aa.cZ ;rfl)|refine aa.aP ?_|refine aa.aJ ?_)
     all_goals first
      |exact aa.round [(7,I 4),(2,I v),(1, .ptr 1 0),(0, .ptr 0 0)] (7-4) (by omega) ⟨rfl,rfl,rfl,rfl,trivial⟩ ⟨4,4,er,q,[t0,t1,t2]++[(0,[])],rfl,rfl,by omega,hq, .inr ⟨h,[t0,t1,t2],rfl,by rw[←hY];rfl⟩,rfl,rfl⟩
      |omega
  ·obtain rfl:j=4:=hj
   match L,hL with
   | [t0, t1, t2, t3], _ =>
    have bb:=bl (cB v 4) (p+q) hq;have gg:=ble (cB v 4) (p+q) hq;have zz:=blu (cB v 4) (p+q);have oo:=@uS b (cB v 4) ([cB v 0,cB v 1,cB v 2,cB v 3,cB v 4,cB v 5].drop 5) s p q;have xx:=@qV b (cB v 4) ([cB v 0,cB v 1,cB v 2,cB v 3,cB v 4,cB v 5].drop 5) s p q;rw[show [cB v 0,cB v 1,cB v 2,cB v 3,cB v 4,cB v 5].drop 4=cB v 4::[cB v 0,cB v 1,cB v 2,cB v 3,cB v 4,cB v 5].drop 5 from rfl]at hY;generalize blX b (cB v 4) (aG s (p+q))=y at *;obtain⟨d,l,er,u⟩:=y;simp only at bb gg zz oo xx;rw[w4]at bb;by_cases h:er=0
    ·subst h;rw[oo rfl]at hY;rw[Nat.add_assoc]at bb;repeat' (first|refine aa.aF ?_|(apply aa.gu [0,1,2,3,4,5,6,7,8,9,10,11,12,13,14,15,16,17,18,19,20,21,22,23,24,25,26,27,28,29,30,31,32,33,34,35,36] 37;rfl)|refine aT.cL ?_|(apply aT.go)|refine aT.lH true ?_|refine aT.gq ?_|(apply aT.two;rfl;rfl;rfl;kernel_rfl)|(exact aa.fg)|(refine aa.bv ?_;rfl)|refine aa.q'h true ?_|refine aa.aj [2] (bb) ?_|refine aa.av (ic) ?_|refine aa.ah ?_|refine aa.ae ?_|refine aa.ak ?_|refine aa.aD ?_|refine aa.aQ ?_|intro _|(apply aa.cZ ;rfl)|refine aa.aP ?_|refine aa.aJ ?_)
     all_goals first
      |exact aa.round [(7,I 5),(2,I v),(1, .ptr 1 0),(0, .ptr 0 0)] (7-5) (by omega) ⟨rfl,rfl,rfl,rfl,trivial⟩ ⟨5,5,0,q+u,[t0,t1,t2,t3,(d,l)],rfl,rfl,by omega,by omega, .inl ⟨rfl,rfl,by rw[←hY];rfl⟩,rfl,rfl⟩
      |omega
    ·obtain⟨rfl,rfl,rfl⟩:=zz h;rw[xx h]at hY;rw[Nat.add_zero]at bb;repeat' (first|refine aa.aF ?_|(apply aa.gu [0,1,2,3,4,5,6,7,8,9,10,11,12,13,14,15,16,17,18,19,20,21,22,23,24,25,26,27,28,29,30,31,32,33,34,35,36] 37;rfl)|refine aT.cL ?_|(apply aT.go)|refine aT.lH true ?_|refine aT.gq ?_|(apply aT.two;rfl;rfl;rfl;kernel_rfl)|(exact aa.fg)|(refine aa.bv ?_;rfl)|refine aa.q'h true ?_|refine aa.aj [2] (bb) ?_|refine aa.av (ic) ?_|refine aa.ah ?_|refine aa.ae ?_|refine aa.ak ?_|refine aa.aD ?_|refine aa.aQ ?_|intro _|(apply aa.cZ ;rfl)|refine aa.aP ?_|refine aa.aJ ?_)
     all_goals first
      |exact aa.round [(7,I 5),(2,I v),(1, .ptr 1 0),(0, .ptr 0 0)] (7-5) (by omega) ⟨rfl,rfl,rfl,rfl,trivial⟩ ⟨5,5,er,q,[t0,t1,t2,t3]++[(0,[])],rfl,rfl,by omega,hq, .inr ⟨h,[t0,t1,t2,t3],rfl,by rw[←hY];rfl⟩,rfl,rfl⟩
      |omega
  ·obtain rfl:j=5:=hj
   match L,hL with
   | [t0, t1, t2, t3, t4], _ =>
    have bb:=bl (cB v 5) (p+q) hq;have gg:=ble (cB v 5) (p+q) hq;have zz:=blu (cB v 5) (p+q);have oo:=@uS b (cB v 5) ([cB v 0,cB v 1,cB v 2,cB v 3,cB v 4,cB v 5].drop 6) s p q;have xx:=@qV b (cB v 5) ([cB v 0,cB v 1,cB v 2,cB v 3,cB v 4,cB v 5].drop 6) s p q;rw[show [cB v 0,cB v 1,cB v 2,cB v 3,cB v 4,cB v 5].drop 5=cB v 5::[cB v 0,cB v 1,cB v 2,cB v 3,cB v 4,cB v 5].drop 6 from rfl]at hY;generalize blX b (cB v 5) (aG s (p+q))=y at *;obtain⟨d,l,er,u⟩:=y;simp only at bb gg zz oo xx;rw[w5]at bb;by_cases h:er=0
    ·subst h;rw[oo rfl]at hY;rw[Nat.add_assoc]at bb;repeat' (first|refine aa.aF ?_|(apply aa.gu [0,1,2,3,4,5,6,7,8,9,10,11,12,13,14,15,16,17,18,19,20,21,22,23,24,25,26,27,28,29,30,31,32,33,34,35,36] 37;rfl)|refine aT.cL ?_|(apply aT.go)|refine aT.lH true ?_|refine aT.gq ?_|(apply aT.two;rfl;rfl;rfl;kernel_rfl)|(exact aa.fg)|(refine aa.bv ?_;rfl)|refine aa.q'h true ?_|refine aa.aj [2] (bb) ?_|refine aa.av (ic) ?_|refine aa.ah ?_|refine aa.ae ?_|refine aa.ak ?_|refine aa.aD ?_|refine aa.aQ ?_|intro _|(apply aa.cZ ;rfl)|refine aa.aP ?_|refine aa.aJ ?_)
     all_goals first
      |exact aa.round [(7,I 6),(2,I v),(1, .ptr 1 0),(0, .ptr 0 0)] (7-6) (by omega) ⟨rfl,rfl,rfl,rfl,trivial⟩ ⟨6,6,0,q+u,[t0,t1,t2,t3,t4,(d,l)],rfl,rfl,by omega,by omega, .inl ⟨rfl,rfl,by rw[←hY];rfl⟩,rfl,rfl⟩
      |omega
    ·obtain⟨rfl,rfl,rfl⟩:=zz h;rw[xx h]at hY;rw[Nat.add_zero]at bb;repeat' (first|refine aa.aF ?_|(apply aa.gu [0,1,2,3,4,5,6,7,8,9,10,11,12,13,14,15,16,17,18,19,20,21,22,23,24,25,26,27,28,29,30,31,32,33,34,35,36] 37;rfl)|refine aT.cL ?_|(apply aT.go)|refine aT.lH true ?_|refine aT.gq ?_|(apply aT.two;rfl;rfl;rfl;kernel_rfl)|(exact aa.fg)|(refine aa.bv ?_;rfl)|refine aa.q'h true ?_|refine aa.aj [2] (bb) ?_|refine aa.av (ic) ?_|refine aa.ah ?_|refine aa.ae ?_|refine aa.ak ?_|refine aa.aD ?_|refine aa.aQ ?_|intro _|(apply aa.cZ ;rfl)|refine aa.aP ?_|refine aa.aJ ?_)
     all_goals first
      |exact aa.round [(7,I 6),(2,I v),(1, .ptr 1 0),(0, .ptr 0 0)] (7-6) (by omega) ⟨rfl,rfl,rfl,rfl,trivial⟩ ⟨6,6,er,q,[t0,t1,t2,t3,t4]++[(0,[])],rfl,rfl,by omega,hq, .inr ⟨h,[t0,t1,t2,t3,t4],rfl,by rw[←hY];rfl⟩,rfl,rfl⟩
      |omega
  ·obtain rfl:j=6:=hj;have hY6:Y=(L,0,q):=by rw[←hY];unfold bdA bdX;simp
   rw[hY6];simp only[if_true];repeat' (first|refine aa.aF ?_|refine aa.bh true ?_|refine aa.ah ?_|refine aa.ae ?_|refine aa.ak ?_|refine aa.aD ?_|refine aa.aQ ?_|((first|(apply aa.Qs;rfl;rfl;rfl;exact ub _ _ _ _ _ _ _ _ _)|(apply aa.Pv;rfl;rfl;rfl;exact ub _ _ _ _ _ _ _ _ _)))|intro _|(apply aa.cZ ;rfl)|refine aa.aP ?_|refine aa.aJ ?_)
   all_goals exact Tn
 ·simp only[if_neg he];repeat' (first|refine aa.aF ?_|refine aa.bh true ?_|refine aa.ah ?_|refine aa.ae ?_|refine aa.ak ?_|refine aa.aD ?_|refine aa.aQ ?_|((first|(apply aa.Qs;rfl;rfl;rfl;exact ub _ _ _ _ _ _ _ _ _)|(apply aa.Pv;rfl;rfl;rfl;exact ub _ _ _ _ _ _ _ _ _)))|intro _|(apply aa.cZ ;rfl)|refine aa.aP ?_|refine aa.aJ ?_)
  all_goals first
   |exact⟨rfl,rfl⟩
   |omega
end Ci
end Go.Proofs.YtbpednchkndocaaGreatDoor.Av
