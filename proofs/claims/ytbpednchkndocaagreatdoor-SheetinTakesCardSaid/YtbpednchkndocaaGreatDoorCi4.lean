/- Cells are read: cellin's blocks. -/
import Derived.Test.YtbpednchkndocaaGreatDoorPq5
set_option linter.unusedVariables false
set_option linter.unusedSimpArgs false
set_option maxRecDepth 100000
set_option maxHeartbeats 64000000
namespace Go.Proofs.YtbpednchkndocaaGreatDoor.Av
namespace Ci
open Go Bt Tc Co Bl
attribute [local irreducible] aa ACalls av ai aN aB
variable {gl:List (Nat×List D)}
abbrev evA (l:List Ev):AV := .d (.sl 3 (bB l))
def dcA:Nat→List (Int×List Ev)→List AV
 |0,_=>[]
 |n+1,[]=>I 0::dcA n []
 |n+1,x::r=>I x.1::dcA n r
def El:Nat→List (Int×List Ev)→List AV
 |0,_=>[]
 |n+1,[] => .d .aG::El n []
 |n+1,x::r=>evA x.2::El n r
def uO (st k sp mx my:Int) (L:List (Int×List Ev)):List AV:=[I st,B false,I k,I sp,I mx,I my]++(dcA 6 L++El 6 L)
theorem fM (v:Int) (h:0≤v∧v≤63) (n:Nat):(0≤v / 2^n∧v / 2^n≤9223372036854775807)∧(0:Int)≤1∧(1:Int)≤9223372036854775807:=by
 have hp:(0:Int)<2^n:=Int.pow_pos (by decide)
 have h1:=Int.ediv_le_self (2^n) h.1
 have h0:0≤v / 2^n:=Int.ediv_nonneg h.1 (by omega)
 omega
theorem wy (v:Int) (h:0≤v) (i:Nat) (j:Int) (hj:(5 - j).toNat=5 - i):aL v i=decide ((((v / 2^(5 - j).toNat).toNat &&& (1:Int).toNat:Nat):Int)=1):=by
 have hp:(0:Int)<2^(5 - i):=Int.pow_pos (by decide)
 have h0:0≤v / 2^(5 - i):=Int.ediv_nonneg h (by omega)
 unfold aL
 rw[hj,show (1:Int).toNat=1 from rfl,Nat.and_one_is_mod]
 rw[decide_eq_decide]
 omega
theorem N7 {b c:Bool} {B:List Int} (h:(blX b c B).2.2.1≠0):(blX b c B).1=0∧(blX b c B).2.1=[]∧(blX b c B).2.2.2=0:=by
 unfold blX at h ⊢
 by_cases h0:(dc0 b B).2.1≠0
 ·rw[if_pos h0];exact⟨rfl,rfl,rfl⟩
 ·rw[if_neg h0]at h ⊢
  cases c with
  |false=>simp at h
  |true =>
   simp only[if_true]at h ⊢
   by_cases h1:(dC 66 (B.drop (dc0 b B).2.2) (frm b:Nat)).2.1≠0
   ·rw[if_pos h1];exact⟨rfl,rfl,rfl⟩
   ·rw[if_neg h1]at h;exact absurd rfl h
theorem kS {b c:Bool} {cs:List Bool} {s:List UInt8} {p q:Nat} (h:(blX b c (af s (p+q))).2.2.1=0) :
  bdX b (c::cs) (af s p) q=(((blX b c (af s (p+q))).1,(blX b c (af s (p+q))).2.1)::(bdX b cs (af s p) (q+(blX b c (af s (p+q))).2.2.2)).1,(bdX b cs (af s p) (q+(blX b c (af s (p+q))).2.2.2)).2):=by
 rw[bdX,bw,if_neg (by simpa using h)]
def bdA (L:List (Int×List Ev)) (y:List (Int×List Ev)×Int×Nat):List (Int×List Ev)×Int×Nat:=(L++y.1,y.2)
theorem jo {b c:Bool} {cs:List Bool} {s:List UInt8} {p q:Nat} (h:(blX b c (af s (p+q))).2.2.1≠0):bdX b (c::cs) (af s p) q=([],(blX b c (af s (p+q))).2.2.1,q):=by
 rw[bdX,bw,if_pos h]
theorem uP (m:Nat):∀(a b:List AV),AV.cA m (a++b)=(AV.cA m a&&AV.cA m b)
 |[],b=>by simp[AV.cA]
 |x::r,b=>by rw[List.cons_append,AV.cA,AV.cA,uP m r b,Bool.and_assoc]
theorem yc (m:Nat):∀(n:Nat) (L:List (Int×List Ev)),AV.cA m (dcA n L)=true
 |0,_=>rfl
 |n+1,[]=>by rw[dcA,AV.cA,yc m n []];rfl
 |n+1,x::r=>by rw[dcA,AV.cA,yc m n r];rfl
theorem xZ (m:Nat):∀(n:Nat) (L:List (Int×List Ev)),AV.cA m (El n L)=true
 |0,_=>rfl
 |n+1,[]=>by rw[El,AV.cA,xZ m n []];rfl
 |n+1,x::r=>by rw[El,AV.cA,xZ m n r];rfl
theorem qj (st k sp mx my e:Int) (L:List (Int×List Ev)) (s:List UInt8) (q:Int):cJ 3 ([Rr 2 e, .cells (uO st k sp mx my L),Rd s q].take 3)=true:=by
 have h:AV.cA 3 (uO st k sp mx my L)=true:=by
  unfold uO
  rw[uP,uP,yc,xZ];rfl
 show (au.bnd 3 (Rr 2 e)&&(AV.cA 3 (uO st k sp mx my L)&&(au.bnd 3 (Rd s q)&&true)))=true
 rw[h];rfl
attribute [local irreducible] blX af Tc.bB aL
theorem JQ (st k sp mx my v:Int) (s:List UInt8) (p:Nat) (hs:s.length≤1000000) (hp:p≤8*s.length) (hv:0≤v∧v≤63) :
  ACalls (cxg gB) 268 [.ptr 0 0, .ptr 1 0,I v] [Rr 2 0, .cells (Mt st k sp mx my),Rd s p]
  (fun r H=>r = .aX []∧H=[Rr 2 (bdX (aI k) (cds v) (af s p) 0).2.1, .cells (uO st k sp mx my (if (bdX (aI k) (cds v) (af s p) 0).2.1=0 then (bdX (aI k) (cds v) (af s p) 0).1 else (bdX (aI k) (cds v) (af s p) 0).1++[(0,[])])),Rd s ((p+(bdX (aI k) (cds v) (af s p) 0).2.2:Nat):Int)]):=by
 have ic:=zW (gl:=gB) k
 have e00:bB []=[]:=by unfold Tc.bB;rfl
 have bl:=fun c q hq=>NZ s q (aI k) c hs hq
 have ble:=fun c q hq=>qZ (aI k) c s q hq
 have blu:=fun c q=>@N7 (aI k) c (af s q)
 have w0:=wy v hv.1 0 0 (by decide)
 have w1:=wy v hv.1 1 1 (by decide)
 have w2:=wy v hv.1 2 2 (by decide)
 have w3:=wy v hv.1 3 3 (by decide)
 have w4:=wy v hv.1 4 4 (by decide)
 have w5:=wy v hv.1 5 5 (by decide)
 unfold cds
 generalize aI k=b at *
 generalize hY:bdX b [aL v 0,aL v 1,aL v 2,aL v 3,aL v 4,aL v 5] (af s p) 0=Y at *
 have hY0:bdA [] (bdX b [aL v 0,aL v 1,aL v 2,aL v 3,aL v 4,aL v 5] (af s p) 0)=Y:=by rw[hY];rfl
 clear hY
 refine ACalls.en Tryz.func268 Tryz.ntmps268 ?_
 repeat (first|refine aa.dG ?_)
 refine aa.weak (env':=[(7,I 0),(2,I v),(1, .ptr 1 0),(0, .ptr 0 0)]) ⟨rfl,rfl,rfl,rfl,trivial⟩ ?_
 refine aa.loop (fun m env H=>∃(i:Nat) (j e:Int) (q:Nat) (L:List (Int×List Ev)),j=i∧m=7 - i∧i≤6∧p+q≤8*s.length ∧
  ((e=0∧L.length=i∧bdA L (bdX b ([aL v 0,aL v 1,aL v 2,aL v 3,aL v 4,aL v 5].drop i) (af s p) q)=Y)∨(e≠0∧∃L',L=L'++[(0,[])]∧Y=(L',e,q))) ∧
  env=[(7,I j),(2,I v),(1, .ptr 1 0),(0, .ptr 0 0)]∧H=[Rr 2 e, .cells (uO st k sp mx my L),Rd s ((p+q:Nat):Int)]) 7
  ⟨0,0,0,0,[],rfl,rfl,by omega,by omega, .inl ⟨rfl,rfl,hY0⟩,rfl,rfl⟩ ?_
 rintro m env H ⟨i,j,e,q,L,hj,rfl,hi,hq,hc,rfl,rfl⟩
 rcases hc with⟨rfl,hL,hY⟩|⟨he,L',rfl,rfl⟩
 ·rcases (show i=0∨i=1∨i=2∨i=3∨i=4∨i=5∨i=6 by omega)with rfl|rfl|rfl|rfl|rfl|rfl|rfl
  ·obtain rfl:j=0:=hj
   match L,hL with
   |[],_ =>
    have bb:=bl (aL v 0) (p+q) hq
    have gg:=ble (aL v 0) (p+q) hq
    have zz:=blu (aL v 0) (p+q)
    have oo:=@kS b (aL v 0) ([aL v 0,aL v 1,aL v 2,aL v 3,aL v 4,aL v 5].drop 1) s p q
    have xx:=@jo b (aL v 0) ([aL v 0,aL v 1,aL v 2,aL v 3,aL v 4,aL v 5].drop 1) s p q
    rw[show [aL v 0,aL v 1,aL v 2,aL v 3,aL v 4,aL v 5].drop 0=aL v 0::[aL v 0,aL v 1,aL v 2,aL v 3,aL v 4,aL v 5].drop 1 from rfl]at hY
    generalize blX b (aL v 0) (af s (p+q))=y at *
    obtain⟨d,l,er,u⟩:=y
    simp only at bb gg zz oo xx
    rw[w0]at bb
    by_cases h:er=0
    ·subst h
     rw[oo rfl]at hY
     rw[Nat.add_assoc]at bb
     repeat' (first|(apply aa.eT [0,1,2,3,4,5,6,7,8,9,10,11,12,13,14,15,16,17,18,19,20,21,22,23,24,25,26,27,28,29,30,31,32,33,34,35,36] 37;rfl)|refine aB.bg ?_|(apply aB.go)|(apply aB.pure true;rfl;exact fun _ _ _ h=>h;(iterate 6 rfl);kernel_rfl;kernel_rfl;first|exact True.intro|omega|(simp only[IntKind.bits];omega)|(exact fM v hv _))|refine aB.dK ?_|(apply aB.two;rfl;rfl;rfl;kernel_rfl)|(exact aa.bP)|(apply aa.bq;(repeat' (first|exact aO.nil|(apply aO.cons;rfl)));rfl)|(apply aa.q true;rfl;rfl;rfl;rfl;first|exact True.intro|omega|(simp only[tn,Int.reduceToNat];omega)|(simp only[IntKind.bits];omega)|(exact fM v hv _))|refine aa.ah [2] ( bb) ?_|refine aa.ae (ic) ?_|intro _|(apply aa.dB ;rfl)|refine aa.aR ?_)
     all_goals first
      |exact aa.round [(7,I 1),(2,I v),(1, .ptr 1 0),(0, .ptr 0 0)] (7 - 1) (by omega) ⟨rfl,rfl,rfl,rfl,trivial⟩ ⟨1,1,0,q+u,[(d,l)],rfl,rfl,by omega,by omega, .inl ⟨rfl,rfl,by rw[←hY];rfl⟩,rfl,rfl⟩
      |omega
    ·obtain⟨rfl,rfl,rfl⟩:=zz h
     rw[xx h]at hY
     rw[Nat.add_zero]at bb
     repeat' (first|(apply aa.eT [0,1,2,3,4,5,6,7,8,9,10,11,12,13,14,15,16,17,18,19,20,21,22,23,24,25,26,27,28,29,30,31,32,33,34,35,36] 37;rfl)|refine aB.bg ?_|(apply aB.go)|(apply aB.pure true;rfl;exact fun _ _ _ h=>h;(iterate 6 rfl);kernel_rfl;kernel_rfl;first|exact True.intro|omega|(simp only[IntKind.bits];omega)|(exact fM v hv _))|refine aB.dK ?_|(apply aB.two;rfl;rfl;rfl;kernel_rfl)|(exact aa.bP)|(apply aa.bq;(repeat' (first|exact aO.nil|(apply aO.cons;rfl)));rfl)|(apply aa.q true;rfl;rfl;rfl;rfl;first|exact True.intro|omega|(simp only[tn,Int.reduceToNat];omega)|(simp only[IntKind.bits];omega)|(exact fM v hv _))|refine aa.ah [2] ( bb) ?_|refine aa.ae (ic) ?_|intro _|(apply aa.dB ;rfl)|refine aa.aR ?_)
     all_goals first
      |exact aa.round [(7,I 1),(2,I v),(1, .ptr 1 0),(0, .ptr 0 0)] (7 - 1) (by omega) ⟨rfl,rfl,rfl,rfl,trivial⟩ ⟨1,1,er,q,[]++[(0,[])],rfl,rfl,by omega,hq, .inr ⟨h,[],rfl,by rw[←hY];rfl⟩,rfl,rfl⟩
      |omega
  ·obtain rfl:j=1:=hj
   match L,hL with
   |[t0],_ =>
    have bb:=bl (aL v 1) (p+q) hq
    have gg:=ble (aL v 1) (p+q) hq
    have zz:=blu (aL v 1) (p+q)
    have oo:=@kS b (aL v 1) ([aL v 0,aL v 1,aL v 2,aL v 3,aL v 4,aL v 5].drop 2) s p q
    have xx:=@jo b (aL v 1) ([aL v 0,aL v 1,aL v 2,aL v 3,aL v 4,aL v 5].drop 2) s p q
    rw[show [aL v 0,aL v 1,aL v 2,aL v 3,aL v 4,aL v 5].drop 1=aL v 1::[aL v 0,aL v 1,aL v 2,aL v 3,aL v 4,aL v 5].drop 2 from rfl]at hY
    generalize blX b (aL v 1) (af s (p+q))=y at *
    obtain⟨d,l,er,u⟩:=y
    simp only at bb gg zz oo xx
    rw[w1]at bb
    by_cases h:er=0
    ·subst h
     rw[oo rfl]at hY
     rw[Nat.add_assoc]at bb
     repeat' (first|(apply aa.eT [0,1,2,3,4,5,6,7,8,9,10,11,12,13,14,15,16,17,18,19,20,21,22,23,24,25,26,27,28,29,30,31,32,33,34,35,36] 37;rfl)|refine aB.bg ?_|(apply aB.go)|(apply aB.pure true;rfl;exact fun _ _ _ h=>h;(iterate 6 rfl);kernel_rfl;kernel_rfl;first|exact True.intro|omega|(simp only[IntKind.bits];omega)|(exact fM v hv _))|refine aB.dK ?_|(apply aB.two;rfl;rfl;rfl;kernel_rfl)|(exact aa.bP)|(apply aa.bq;(repeat' (first|exact aO.nil|(apply aO.cons;rfl)));rfl)|(apply aa.q true;rfl;rfl;rfl;rfl;first|exact True.intro|omega|(simp only[tn,Int.reduceToNat];omega)|(simp only[IntKind.bits];omega)|(exact fM v hv _))|refine aa.ah [2] ( bb) ?_|refine aa.ae (ic) ?_|intro _|(apply aa.dB ;rfl)|refine aa.aR ?_)
     all_goals first
      |exact aa.round [(7,I 2),(2,I v),(1, .ptr 1 0),(0, .ptr 0 0)] (7 - 2) (by omega) ⟨rfl,rfl,rfl,rfl,trivial⟩ ⟨2,2,0,q+u,[t0,(d,l)],rfl,rfl,by omega,by omega, .inl ⟨rfl,rfl,by rw[←hY];rfl⟩,rfl,rfl⟩
      |omega
    ·obtain⟨rfl,rfl,rfl⟩:=zz h
     rw[xx h]at hY
     rw[Nat.add_zero]at bb
     repeat' (first|(apply aa.eT [0,1,2,3,4,5,6,7,8,9,10,11,12,13,14,15,16,17,18,19,20,21,22,23,24,25,26,27,28,29,30,31,32,33,34,35,36] 37;rfl)|refine aB.bg ?_|(apply aB.go)|(apply aB.pure true;rfl;exact fun _ _ _ h=>h;(iterate 6 rfl);kernel_rfl;kernel_rfl;first|exact True.intro|omega|(simp only[IntKind.bits];omega)|(exact fM v hv _))|refine aB.dK ?_|(apply aB.two;rfl;rfl;rfl;kernel_rfl)|(exact aa.bP)|(apply aa.bq;(repeat' (first|exact aO.nil|(apply aO.cons;rfl)));rfl)|(apply aa.q true;rfl;rfl;rfl;rfl;first|exact True.intro|omega|(simp only[tn,Int.reduceToNat];omega)|(simp only[IntKind.bits];omega)|(exact fM v hv _))|refine aa.ah [2] ( bb) ?_|refine aa.ae (ic) ?_|intro _|(apply aa.dB ;rfl)|refine aa.aR ?_)
     all_goals first
      |exact aa.round [(7,I 2),(2,I v),(1, .ptr 1 0),(0, .ptr 0 0)] (7 - 2) (by omega) ⟨rfl,rfl,rfl,rfl,trivial⟩ ⟨2,2,er,q,[t0]++[(0,[])],rfl,rfl,by omega,hq, .inr ⟨h,[t0],rfl,by rw[←hY];rfl⟩,rfl,rfl⟩
      |omega
  ·obtain rfl:j=2:=hj
   match L,hL with
   |[t0,t1],_ =>
    have bb:=bl (aL v 2) (p+q) hq
    have gg:=ble (aL v 2) (p+q) hq
    have zz:=blu (aL v 2) (p+q)
    have oo:=@kS b (aL v 2) ([aL v 0,aL v 1,aL v 2,aL v 3,aL v 4,aL v 5].drop 3) s p q
    have xx:=@jo b (aL v 2) ([aL v 0,aL v 1,aL v 2,aL v 3,aL v 4,aL v 5].drop 3) s p q
    rw[show [aL v 0,aL v 1,aL v 2,aL v 3,aL v 4,aL v 5].drop 2=aL v 2::[aL v 0,aL v 1,aL v 2,aL v 3,aL v 4,aL v 5].drop 3 from rfl]at hY
    generalize blX b (aL v 2) (af s (p+q))=y at *
    obtain⟨d,l,er,u⟩:=y
    simp only at bb gg zz oo xx
    rw[w2]at bb
    by_cases h:er=0
    ·subst h
     rw[oo rfl]at hY
     rw[Nat.add_assoc]at bb
     repeat' (first|(apply aa.eT [0,1,2,3,4,5,6,7,8,9,10,11,12,13,14,15,16,17,18,19,20,21,22,23,24,25,26,27,28,29,30,31,32,33,34,35,36] 37;rfl)|refine aB.bg ?_|(apply aB.go)|(apply aB.pure true;rfl;exact fun _ _ _ h=>h;(iterate 6 rfl);kernel_rfl;kernel_rfl;first|exact True.intro|omega|(simp only[IntKind.bits];omega)|(exact fM v hv _))|refine aB.dK ?_|(apply aB.two;rfl;rfl;rfl;kernel_rfl)|(exact aa.bP)|(apply aa.bq;(repeat' (first|exact aO.nil|(apply aO.cons;rfl)));rfl)|(apply aa.q true;rfl;rfl;rfl;rfl;first|exact True.intro|omega|(simp only[tn,Int.reduceToNat];omega)|(simp only[IntKind.bits];omega)|(exact fM v hv _))|refine aa.ah [2] ( bb) ?_|refine aa.ae (ic) ?_|intro _|(apply aa.dB ;rfl)|refine aa.aR ?_)
     all_goals first
      |exact aa.round [(7,I 3),(2,I v),(1, .ptr 1 0),(0, .ptr 0 0)] (7 - 3) (by omega) ⟨rfl,rfl,rfl,rfl,trivial⟩ ⟨3,3,0,q+u,[t0,t1,(d,l)],rfl,rfl,by omega,by omega, .inl ⟨rfl,rfl,by rw[←hY];rfl⟩,rfl,rfl⟩
      |omega
    ·obtain⟨rfl,rfl,rfl⟩:=zz h
     rw[xx h]at hY
     rw[Nat.add_zero]at bb
     repeat' (first|(apply aa.eT [0,1,2,3,4,5,6,7,8,9,10,11,12,13,14,15,16,17,18,19,20,21,22,23,24,25,26,27,28,29,30,31,32,33,34,35,36] 37;rfl)|refine aB.bg ?_|(apply aB.go)|(apply aB.pure true;rfl;exact fun _ _ _ h=>h;(iterate 6 rfl);kernel_rfl;kernel_rfl;first|exact True.intro|omega|(simp only[IntKind.bits];omega)|(exact fM v hv _))|refine aB.dK ?_|(apply aB.two;rfl;rfl;rfl;kernel_rfl)|(exact aa.bP)|(apply aa.bq;(repeat' (first|exact aO.nil|(apply aO.cons;rfl)));rfl)|(apply aa.q true;rfl;rfl;rfl;rfl;first|exact True.intro|omega|(simp only[tn,Int.reduceToNat];omega)|(simp only[IntKind.bits];omega)|(exact fM v hv _))|refine aa.ah [2] ( bb) ?_|refine aa.ae (ic) ?_|intro _|(apply aa.dB ;rfl)|refine aa.aR ?_)
     all_goals first
      |exact aa.round [(7,I 3),(2,I v),(1, .ptr 1 0),(0, .ptr 0 0)] (7 - 3) (by omega) ⟨rfl,rfl,rfl,rfl,trivial⟩ ⟨3,3,er,q,[t0,t1]++[(0,[])],rfl,rfl,by omega,hq, .inr ⟨h,[t0,t1],rfl,by rw[←hY];rfl⟩,rfl,rfl⟩
      |omega
  ·obtain rfl:j=3:=hj
   match L,hL with
   |[t0,t1,t2],_ =>
    have bb:=bl (aL v 3) (p+q) hq
    have gg:=ble (aL v 3) (p+q) hq
    have zz:=blu (aL v 3) (p+q)
    have oo:=@kS b (aL v 3) ([aL v 0,aL v 1,aL v 2,aL v 3,aL v 4,aL v 5].drop 4) s p q
    have xx:=@jo b (aL v 3) ([aL v 0,aL v 1,aL v 2,aL v 3,aL v 4,aL v 5].drop 4) s p q
    rw[show [aL v 0,aL v 1,aL v 2,aL v 3,aL v 4,aL v 5].drop 3=aL v 3::[aL v 0,aL v 1,aL v 2,aL v 3,aL v 4,aL v 5].drop 4 from rfl]at hY
    generalize blX b (aL v 3) (af s (p+q))=y at *
    obtain⟨d,l,er,u⟩:=y
    simp only at bb gg zz oo xx
    rw[w3]at bb
    by_cases h:er=0
    ·subst h
     rw[oo rfl]at hY
     rw[Nat.add_assoc]at bb
     repeat' (first|(apply aa.eT [0,1,2,3,4,5,6,7,8,9,10,11,12,13,14,15,16,17,18,19,20,21,22,23,24,25,26,27,28,29,30,31,32,33,34,35,36] 37;rfl)|refine aB.bg ?_|(apply aB.go)|(apply aB.pure true;rfl;exact fun _ _ _ h=>h;(iterate 6 rfl);kernel_rfl;kernel_rfl;first|exact True.intro|omega|(simp only[IntKind.bits];omega)|(exact fM v hv _))|refine aB.dK ?_|(apply aB.two;rfl;rfl;rfl;kernel_rfl)|(exact aa.bP)|(apply aa.bq;(repeat' (first|exact aO.nil|(apply aO.cons;rfl)));rfl)|(apply aa.q true;rfl;rfl;rfl;rfl;first|exact True.intro|omega|(simp only[tn,Int.reduceToNat];omega)|(simp only[IntKind.bits];omega)|(exact fM v hv _))|refine aa.ah [2] ( bb) ?_|refine aa.ae (ic) ?_|intro _|(apply aa.dB ;rfl)|refine aa.aR ?_)
     all_goals first
      |exact aa.round [(7,I 4),(2,I v),(1, .ptr 1 0),(0, .ptr 0 0)] (7 - 4) (by omega) ⟨rfl,rfl,rfl,rfl,trivial⟩ ⟨4,4,0,q+u,[t0,t1,t2,(d,l)],rfl,rfl,by omega,by omega, .inl ⟨rfl,rfl,by rw[←hY];rfl⟩,rfl,rfl⟩
      |omega
    ·obtain⟨rfl,rfl,rfl⟩:=zz h
     rw[xx h]at hY
     rw[Nat.add_zero]at bb
     repeat' (first|(apply aa.eT [0,1,2,3,4,5,6,7,8,9,10,11,12,13,14,15,16,17,18,19,20,21,22,23,24,25,26,27,28,29,30,31,32,33,34,35,36] 37;rfl)|refine aB.bg ?_|(apply aB.go)|(apply aB.pure true;rfl;exact fun _ _ _ h=>h;(iterate 6 rfl);kernel_rfl;kernel_rfl;first|exact True.intro|omega|(simp only[IntKind.bits];omega)|(exact fM v hv _))|refine aB.dK ?_|(apply aB.two;rfl;rfl;rfl;kernel_rfl)|(exact aa.bP)|(apply aa.bq;(repeat' (first|exact aO.nil|(apply aO.cons;rfl)));rfl)|(apply aa.q true;rfl;rfl;rfl;rfl;first|exact True.intro|omega|(simp only[tn,Int.reduceToNat];omega)|(simp only[IntKind.bits];omega)|(exact fM v hv _))|refine aa.ah [2] ( bb) ?_|refine aa.ae (ic) ?_|intro _|(apply aa.dB ;rfl)|refine aa.aR ?_)
     all_goals first
      |exact aa.round [(7,I 4),(2,I v),(1, .ptr 1 0),(0, .ptr 0 0)] (7 - 4) (by omega) ⟨rfl,rfl,rfl,rfl,trivial⟩ ⟨4,4,er,q,[t0,t1,t2]++[(0,[])],rfl,rfl,by omega,hq, .inr ⟨h,[t0,t1,t2],rfl,by rw[←hY];rfl⟩,rfl,rfl⟩
      |omega
  ·obtain rfl:j=4:=hj
   match L,hL with
   |[t0,t1,t2,t3],_ =>
    have bb:=bl (aL v 4) (p+q) hq
    have gg:=ble (aL v 4) (p+q) hq
    have zz:=blu (aL v 4) (p+q)
    have oo:=@kS b (aL v 4) ([aL v 0,aL v 1,aL v 2,aL v 3,aL v 4,aL v 5].drop 5) s p q
    have xx:=@jo b (aL v 4) ([aL v 0,aL v 1,aL v 2,aL v 3,aL v 4,aL v 5].drop 5) s p q
    rw[show [aL v 0,aL v 1,aL v 2,aL v 3,aL v 4,aL v 5].drop 4=aL v 4::[aL v 0,aL v 1,aL v 2,aL v 3,aL v 4,aL v 5].drop 5 from rfl]at hY
    generalize blX b (aL v 4) (af s (p+q))=y at *
    obtain⟨d,l,er,u⟩:=y
    simp only at bb gg zz oo xx
    rw[w4]at bb
    by_cases h:er=0
    ·subst h
     rw[oo rfl]at hY
     rw[Nat.add_assoc]at bb
     repeat' (first|(apply aa.eT [0,1,2,3,4,5,6,7,8,9,10,11,12,13,14,15,16,17,18,19,20,21,22,23,24,25,26,27,28,29,30,31,32,33,34,35,36] 37;rfl)|refine aB.bg ?_|(apply aB.go)|(apply aB.pure true;rfl;exact fun _ _ _ h=>h;(iterate 6 rfl);kernel_rfl;kernel_rfl;first|exact True.intro|omega|(simp only[IntKind.bits];omega)|(exact fM v hv _))|refine aB.dK ?_|(apply aB.two;rfl;rfl;rfl;kernel_rfl)|(exact aa.bP)|(apply aa.bq;(repeat' (first|exact aO.nil|(apply aO.cons;rfl)));rfl)|(apply aa.q true;rfl;rfl;rfl;rfl;first|exact True.intro|omega|(simp only[tn,Int.reduceToNat];omega)|(simp only[IntKind.bits];omega)|(exact fM v hv _))|refine aa.ah [2] ( bb) ?_|refine aa.ae (ic) ?_|intro _|(apply aa.dB ;rfl)|refine aa.aR ?_)
     all_goals first
      |exact aa.round [(7,I 5),(2,I v),(1, .ptr 1 0),(0, .ptr 0 0)] (7 - 5) (by omega) ⟨rfl,rfl,rfl,rfl,trivial⟩ ⟨5,5,0,q+u,[t0,t1,t2,t3,(d,l)],rfl,rfl,by omega,by omega, .inl ⟨rfl,rfl,by rw[←hY];rfl⟩,rfl,rfl⟩
      |omega
    ·obtain⟨rfl,rfl,rfl⟩:=zz h
     rw[xx h]at hY
     rw[Nat.add_zero]at bb
     repeat' (first|(apply aa.eT [0,1,2,3,4,5,6,7,8,9,10,11,12,13,14,15,16,17,18,19,20,21,22,23,24,25,26,27,28,29,30,31,32,33,34,35,36] 37;rfl)|refine aB.bg ?_|(apply aB.go)|(apply aB.pure true;rfl;exact fun _ _ _ h=>h;(iterate 6 rfl);kernel_rfl;kernel_rfl;first|exact True.intro|omega|(simp only[IntKind.bits];omega)|(exact fM v hv _))|refine aB.dK ?_|(apply aB.two;rfl;rfl;rfl;kernel_rfl)|(exact aa.bP)|(apply aa.bq;(repeat' (first|exact aO.nil|(apply aO.cons;rfl)));rfl)|(apply aa.q true;rfl;rfl;rfl;rfl;first|exact True.intro|omega|(simp only[tn,Int.reduceToNat];omega)|(simp only[IntKind.bits];omega)|(exact fM v hv _))|refine aa.ah [2] ( bb) ?_|refine aa.ae (ic) ?_|intro _|(apply aa.dB ;rfl)|refine aa.aR ?_)
     all_goals first
      |exact aa.round [(7,I 5),(2,I v),(1, .ptr 1 0),(0, .ptr 0 0)] (7 - 5) (by omega) ⟨rfl,rfl,rfl,rfl,trivial⟩ ⟨5,5,er,q,[t0,t1,t2,t3]++[(0,[])],rfl,rfl,by omega,hq, .inr ⟨h,[t0,t1,t2,t3],rfl,by rw[←hY];rfl⟩,rfl,rfl⟩
      |omega
  ·obtain rfl:j=5:=hj
   match L,hL with
   |[t0,t1,t2,t3,t4],_ =>
    have bb:=bl (aL v 5) (p+q) hq
    have gg:=ble (aL v 5) (p+q) hq
    have zz:=blu (aL v 5) (p+q)
    have oo:=@kS b (aL v 5) ([aL v 0,aL v 1,aL v 2,aL v 3,aL v 4,aL v 5].drop 6) s p q
    have xx:=@jo b (aL v 5) ([aL v 0,aL v 1,aL v 2,aL v 3,aL v 4,aL v 5].drop 6) s p q
    rw[show [aL v 0,aL v 1,aL v 2,aL v 3,aL v 4,aL v 5].drop 5=aL v 5::[aL v 0,aL v 1,aL v 2,aL v 3,aL v 4,aL v 5].drop 6 from rfl]at hY
    generalize blX b (aL v 5) (af s (p+q))=y at *
    obtain⟨d,l,er,u⟩:=y
    simp only at bb gg zz oo xx
    rw[w5]at bb
    by_cases h:er=0
    ·subst h
     rw[oo rfl]at hY
     rw[Nat.add_assoc]at bb
     repeat' (first|(apply aa.eT [0,1,2,3,4,5,6,7,8,9,10,11,12,13,14,15,16,17,18,19,20,21,22,23,24,25,26,27,28,29,30,31,32,33,34,35,36] 37;rfl)|refine aB.bg ?_|(apply aB.go)|(apply aB.pure true;rfl;exact fun _ _ _ h=>h;(iterate 6 rfl);kernel_rfl;kernel_rfl;first|exact True.intro|omega|(simp only[IntKind.bits];omega)|(exact fM v hv _))|refine aB.dK ?_|(apply aB.two;rfl;rfl;rfl;kernel_rfl)|(exact aa.bP)|(apply aa.bq;(repeat' (first|exact aO.nil|(apply aO.cons;rfl)));rfl)|(apply aa.q true;rfl;rfl;rfl;rfl;first|exact True.intro|omega|(simp only[tn,Int.reduceToNat];omega)|(simp only[IntKind.bits];omega)|(exact fM v hv _))|refine aa.ah [2] ( bb) ?_|refine aa.ae (ic) ?_|intro _|(apply aa.dB ;rfl)|refine aa.aR ?_)
     all_goals first
      |exact aa.round [(7,I 6),(2,I v),(1, .ptr 1 0),(0, .ptr 0 0)] (7 - 6) (by omega) ⟨rfl,rfl,rfl,rfl,trivial⟩ ⟨6,6,0,q+u,[t0,t1,t2,t3,t4,(d,l)],rfl,rfl,by omega,by omega, .inl ⟨rfl,rfl,by rw[←hY];rfl⟩,rfl,rfl⟩
      |omega
    ·obtain⟨rfl,rfl,rfl⟩:=zz h
     rw[xx h]at hY
     rw[Nat.add_zero]at bb
     repeat' (first|(apply aa.eT [0,1,2,3,4,5,6,7,8,9,10,11,12,13,14,15,16,17,18,19,20,21,22,23,24,25,26,27,28,29,30,31,32,33,34,35,36] 37;rfl)|refine aB.bg ?_|(apply aB.go)|(apply aB.pure true;rfl;exact fun _ _ _ h=>h;(iterate 6 rfl);kernel_rfl;kernel_rfl;first|exact True.intro|omega|(simp only[IntKind.bits];omega)|(exact fM v hv _))|refine aB.dK ?_|(apply aB.two;rfl;rfl;rfl;kernel_rfl)|(exact aa.bP)|(apply aa.bq;(repeat' (first|exact aO.nil|(apply aO.cons;rfl)));rfl)|(apply aa.q true;rfl;rfl;rfl;rfl;first|exact True.intro|omega|(simp only[tn,Int.reduceToNat];omega)|(simp only[IntKind.bits];omega)|(exact fM v hv _))|refine aa.ah [2] ( bb) ?_|refine aa.ae (ic) ?_|intro _|(apply aa.dB ;rfl)|refine aa.aR ?_)
     all_goals first
      |exact aa.round [(7,I 6),(2,I v),(1, .ptr 1 0),(0, .ptr 0 0)] (7 - 6) (by omega) ⟨rfl,rfl,rfl,rfl,trivial⟩ ⟨6,6,er,q,[t0,t1,t2,t3,t4]++[(0,[])],rfl,rfl,by omega,hq, .inr ⟨h,[t0,t1,t2,t3,t4],rfl,by rw[←hY];rfl⟩,rfl,rfl⟩
      |omega
  ·obtain rfl:j=6:=hj
   have hY6:Y=(L,0,q):=by rw[←hY];unfold bdA bdX;simp
   rw[hY6]
   simp only[if_true]
   repeat' (first|refine aa.bN true ?_|((first|(apply aa.Me;rfl;rfl;rfl;exact qj _ _ _ _ _ _ _ _ _)|(apply aa.Lh;rfl;rfl;rfl;exact qj _ _ _ _ _ _ _ _ _)))|intro _|(apply aa.dB ;rfl)|refine aa.aR ?_)
   all_goals first|exact⟨rfl,rfl⟩|omega
 ·simp only[if_neg he]
  repeat' (first|refine aa.bN true ?_|((first|(apply aa.Me;rfl;rfl;rfl;exact qj _ _ _ _ _ _ _ _ _)|(apply aa.Lh;rfl;rfl;rfl;exact qj _ _ _ _ _ _ _ _ _)))|intro _|(apply aa.dB ;rfl)|refine aa.aR ?_)
  all_goals first
   |exact⟨rfl,rfl⟩
   |omega
end Ci
end Go.Proofs.YtbpednchkndocaaGreatDoor.Av
