/- Cells are read: cellin's blocks. -/
import Derived.Test.YtbpednchkndocaaGreatDoorPq5
set_option linter.unusedVariables false
set_option linter.unusedSimpArgs false
set_option maxRecDepth 100000
set_option maxHeartbeats 64000000
namespace Go.Proofs.YtbpednchkndocaaGreatDoor.Av
namespace Ci
open Go Bt Tc Co Bl
attribute [local irreducible] aa ACalls aO aC bB aR
variable {gl:List (Nat×List D)}
abbrev evA (l:List Ev):AV := .d (.sl 3 (cn l))
def dcA:Nat→List (Int×List Ev)→List AV
 |0,_=>[]
 |n+1,[]=>I 0::dcA n []
 |n+1,x::r=>I x.1::dcA n r
def ED:Nat→List (Int×List Ev)→List AV
 |0,_=>[]
 |n+1,[] => .d .aY::ED n []
 |n+1,x::r=>evA x.2::ED n r
def vA (st k sp mx my:Int) (L:List (Int×List Ev)):List AV:=[I st,B false,I k,I sp,I mx,I my]++(dcA 6 L++ED 6 L)
theorem gP (v:Int) (h:0≤v∧v≤63) (n:Nat):(0≤v / 2^n∧v / 2^n≤9223372036854775807)∧(0:Int)≤1∧(1:Int)≤9223372036854775807:=by
 have hp:(0:Int)<2^n:=Int.pow_pos (by decide)
 have h1:=Int.ediv_le_self (2^n) h.1
 have h0:0≤v / 2^n:=Int.ediv_nonneg h.1 (by omega)
 omega
theorem wW (v:Int) (h:0≤v) (i:Nat) (j:Int) (hj:(5 - j).toNat=5 - i):bv v i=decide ((((v / 2^(5 - j).toNat).toNat &&& (1:Int).toNat:Nat):Int)=1):=by
 have hp:(0:Int)<2^(5 - i):=Int.pow_pos (by decide)
 have h0:0≤v / 2^(5 - i):=Int.ediv_nonneg h (by omega)
 unfold bv
 rw[hj,show (1:Int).toNat=1 from rfl,Nat.and_one_is_mod]
 rw[decide_eq_decide]
 omega
theorem NV {b c:Bool} {B:List Int} (h:(blX b c B).2.2.1≠0):(blX b c B).1=0∧(blX b c B).2.1=[]∧(blX b c B).2.2.2=0:=by
 unfold blX at h ⊢
 by_cases h0:(dc0 b B).2.1≠0
 ·rw[if_pos h0];exact⟨rfl,rfl,rfl⟩
 ·rw[if_neg h0]at h ⊢
  cases c with
  |false=>simp at h
  |true =>
   simp only[if_true]at h ⊢
   by_cases h1:(eu 66 (B.drop (dc0 b B).2.2) (frm b:Nat)).2.1≠0
   ·rw[if_pos h1];exact⟨rfl,rfl,rfl⟩
   ·rw[if_neg h1]at h;exact absurd rfl h
theorem lU {b c:Bool} {cs:List Bool} {s:List UInt8} {p q:Nat} (h:(blX b c (ak s (p+q))).2.2.1=0) :
  bdX b (c::cs) (ak s p) q=(((blX b c (ak s (p+q))).1,(blX b c (ak s (p+q))).2.1)::(bdX b cs (ak s p) (q+(blX b c (ak s (p+q))).2.2.2)).1,(bdX b cs (ak s p) (q+(blX b c (ak s (p+q))).2.2.2)).2):=by
 rw[bdX,bX,if_neg (by simpa using h)]
def bdA (L:List (Int×List Ev)) (y:List (Int×List Ev)×Int×Nat):List (Int×List Ev)×Int×Nat:=(L++y.1,y.2)
theorem jT {b c:Bool} {cs:List Bool} {s:List UInt8} {p q:Nat} (h:(blX b c (ak s (p+q))).2.2.1≠0):bdX b (c::cs) (ak s p) q=([],(blX b c (ak s (p+q))).2.2.1,q):=by
 rw[bdX,bX,if_pos h]
theorem vB (m:Nat):∀(a b:List AV),AV.dA m (a++b)=(AV.dA m a&&AV.dA m b)
 |[],b=>by simp[AV.dA]
 |x::r,b=>by rw[List.cons_append,AV.dA,AV.dA,vB m r b,Bool.and_assoc]
theorem yJ (m:Nat):∀(n:Nat) (L:List (Int×List Ev)),AV.dA m (dcA n L)=true
 |0,_=>rfl
 |n+1,[]=>by rw[dcA,AV.dA,yJ m n []];rfl
 |n+1,x::r=>by rw[dcA,AV.dA,yJ m n r];rfl
theorem yI (m:Nat):∀(n:Nat) (L:List (Int×List Ev)),AV.dA m (ED n L)=true
 |0,_=>rfl
 |n+1,[]=>by rw[ED,AV.dA,yI m n []];rfl
 |n+1,x::r=>by rw[ED,AV.dA,yI m n r];rfl
theorem qQ (st k sp mx my e:Int) (L:List (Int×List Ev)) (s:List UInt8) (q:Int):dG 3 ([Rr 2 e, .cells (vA st k sp mx my L),Rd s q].take 3)=true:=by
 have h:AV.dA 3 (vA st k sp mx my L)=true:=by
  unfold vA
  rw[vB,vB,yJ,yI];rfl
 show (aM.bnd 3 (Rr 2 e)&&(AV.dA 3 (vA st k sp mx my L)&&(aM.bnd 3 (Rd s q)&&true)))=true
 rw[h];rfl
attribute [local irreducible] blX ak Tc.cn bv
theorem JU (st k sp mx my v:Int) (s:List UInt8) (p:Nat) (hs:s.length≤1000000) (hp:p≤8*s.length) (hv:0≤v∧v≤63) :
  ACalls (cxg gB) 268 [.ptr 0 0, .ptr 1 0,I v] [Rr 2 0, .cells (Mt st k sp mx my),Rd s p]
  (fun r H=>r = .bK []∧H=[Rr 2 (bdX (bf k) (cds v) (ak s p) 0).2.1, .cells (vA st k sp mx my (if (bdX (bf k) (cds v) (ak s p) 0).2.1=0 then (bdX (bf k) (cds v) (ak s p) 0).1 else (bdX (bf k) (cds v) (ak s p) 0).1++[(0,[])])),Rd s ((p+(bdX (bf k) (cds v) (ak s p) 0).2.2:Nat):Int)]):=by
 have ic:=Az (gl:=gB) k
 have e00:cn []=[]:=by unfold Tc.cn;rfl
 have bl:=fun c q hq=>NU s q (bf k) c hs hq
 have ble:=fun c q hq=>rX (bf k) c s q hq
 have blu:=fun c q=>@NV (bf k) c (ak s q)
 have w0:=wW v hv.1 0 0 (by decide)
 have w1:=wW v hv.1 1 1 (by decide)
 have w2:=wW v hv.1 2 2 (by decide)
 have w3:=wW v hv.1 3 3 (by decide)
 have w4:=wW v hv.1 4 4 (by decide)
 have w5:=wW v hv.1 5 5 (by decide)
 unfold cds
 generalize bf k=b at *
 generalize hY:bdX b [bv v 0,bv v 1,bv v 2,bv v 3,bv v 4,bv v 5] (ak s p) 0=Y at *
 have hY0:bdA [] (bdX b [bv v 0,bv v 1,bv v 2,bv v 3,bv v 4,bv v 5] (ak s p) 0)=Y:=by rw[hY];rfl
 clear hY
 refine ACalls.en Tryz.func268 Tryz.ntmps268 ?_
 repeat (first|refine aa.aD ?_|refine aa.bh true ?_|refine aa.ae ?_|refine aa.af ?_|refine aa.ai ?_|refine aa.aA ?_|refine aa.aK ?_)
 refine aa.weak (env':=[(7,I 0),(2,I v),(1, .ptr 1 0),(0, .ptr 0 0)]) ⟨rfl,rfl,rfl,rfl,trivial⟩ ?_
 refine aa.loop (fun m env H=>∃(i:Nat) (j e:Int) (q:Nat) (L:List (Int×List Ev)),j=i∧m=7 - i∧i≤6∧p+q≤8*s.length ∧
  ((e=0∧L.length=i∧bdA L (bdX b ([bv v 0,bv v 1,bv v 2,bv v 3,bv v 4,bv v 5].drop i) (ak s p) q)=Y)∨(e≠0∧∃L',L=L'++[(0,[])]∧Y=(L',e,q))) ∧
  env=[(7,I j),(2,I v),(1, .ptr 1 0),(0, .ptr 0 0)]∧H=[Rr 2 e, .cells (vA st k sp mx my L),Rd s ((p+q:Nat):Int)]) 7
  ⟨0,0,0,0,[],rfl,rfl,by omega,by omega, .inl ⟨rfl,rfl,hY0⟩,rfl,rfl⟩ ?_
 rintro m env H ⟨i,j,e,q,L,hj,rfl,hi,hq,hc,rfl,rfl⟩
 rcases hc with⟨rfl,hL,hY⟩|⟨he,L',rfl,rfl⟩
 ·rcases (show i=0∨i=1∨i=2∨i=3∨i=4∨i=5∨i=6 by omega)with rfl|rfl|rfl|rfl|rfl|rfl|rfl
  ·obtain rfl:j=0:=hj
   match L,hL with
   |[],_ =>
    have bb:=bl (bv v 0) (p+q) hq
    have gg:=ble (bv v 0) (p+q) hq
    have zz:=blu (bv v 0) (p+q)
    have oo:=@lU b (bv v 0) ([bv v 0,bv v 1,bv v 2,bv v 3,bv v 4,bv v 5].drop 1) s p q
    have xx:=@jT b (bv v 0) ([bv v 0,bv v 1,bv v 2,bv v 3,bv v 4,bv v 5].drop 1) s p q
    rw[show [bv v 0,bv v 1,bv v 2,bv v 3,bv v 4,bv v 5].drop 0=bv v 0::[bv v 0,bv v 1,bv v 2,bv v 3,bv v 4,bv v 5].drop 1 from rfl]at hY
    generalize blX b (bv v 0) (ak s (p+q))=y at *
    obtain⟨d,l,er,u⟩:=y
    simp only at bb gg zz oo xx
    rw[w0]at bb
    by_cases h:er=0
    ·subst h
     rw[oo rfl]at hY
     rw[Nat.add_assoc]at bb
     repeat' (first|refine aa.aD ?_|(apply aa.fZ [0,1,2,3,4,5,6,7,8,9,10,11,12,13,14,15,16,17,18,19,20,21,22,23,24,25,26,27,28,29,30,31,32,33,34,35,36] 37;rfl)|refine aR.bQ ?_|(apply aR.go)|(apply aR.pure true;rfl;exact fun _ _ _ h=>h;(iterate 6 rfl);kernel_rfl;kernel_rfl;first|exact True.intro|omega|(simp only[IntKind.bits];omega)|(exact gP v hv _))|refine aR.eO ?_|(apply aR.two;rfl;rfl;rfl;kernel_rfl)|(exact aa.cL)|(apply aa.bV;(repeat' (first|exact bz.nil|(apply bz.cons;rfl)));rfl)|(apply aa.q true;rfl;rfl;rfl;rfl;first|exact True.intro|omega|(simp only[tn,Int.reduceToNat];omega)|(simp only[IntKind.bits];omega)|(exact gP v hv _))|refine aa.az [2] ( bb) ?_|refine aa.ah (ic) ?_|refine aa.ae ?_|refine aa.af ?_|refine aa.ai ?_|refine aa.aA ?_|refine aa.aK ?_|intro _|(apply aa.ed ;rfl)|refine aa.aP ?_|refine aa.aI ?_)
     all_goals first
      |exact aa.round [(7,I 1),(2,I v),(1, .ptr 1 0),(0, .ptr 0 0)] (7 - 1) (by omega) ⟨rfl,rfl,rfl,rfl,trivial⟩ ⟨1,1,0,q+u,[(d,l)],rfl,rfl,by omega,by omega, .inl ⟨rfl,rfl,by rw[←hY];rfl⟩,rfl,rfl⟩
      |omega
    ·obtain⟨rfl,rfl,rfl⟩:=zz h
     rw[xx h]at hY
     rw[Nat.add_zero]at bb
     repeat' (first|refine aa.aD ?_|(apply aa.fZ [0,1,2,3,4,5,6,7,8,9,10,11,12,13,14,15,16,17,18,19,20,21,22,23,24,25,26,27,28,29,30,31,32,33,34,35,36] 37;rfl)|refine aR.bQ ?_|(apply aR.go)|(apply aR.pure true;rfl;exact fun _ _ _ h=>h;(iterate 6 rfl);kernel_rfl;kernel_rfl;first|exact True.intro|omega|(simp only[IntKind.bits];omega)|(exact gP v hv _))|refine aR.eO ?_|(apply aR.two;rfl;rfl;rfl;kernel_rfl)|(exact aa.cL)|(apply aa.bV;(repeat' (first|exact bz.nil|(apply bz.cons;rfl)));rfl)|(apply aa.q true;rfl;rfl;rfl;rfl;first|exact True.intro|omega|(simp only[tn,Int.reduceToNat];omega)|(simp only[IntKind.bits];omega)|(exact gP v hv _))|refine aa.az [2] ( bb) ?_|refine aa.ah (ic) ?_|refine aa.ae ?_|refine aa.af ?_|refine aa.ai ?_|refine aa.aA ?_|refine aa.aK ?_|intro _|(apply aa.ed ;rfl)|refine aa.aP ?_|refine aa.aI ?_)
     all_goals first
      |exact aa.round [(7,I 1),(2,I v),(1, .ptr 1 0),(0, .ptr 0 0)] (7 - 1) (by omega) ⟨rfl,rfl,rfl,rfl,trivial⟩ ⟨1,1,er,q,[]++[(0,[])],rfl,rfl,by omega,hq, .inr ⟨h,[],rfl,by rw[←hY];rfl⟩,rfl,rfl⟩
      |omega
  ·obtain rfl:j=1:=hj
   match L,hL with
   |[t0],_ =>
    have bb:=bl (bv v 1) (p+q) hq
    have gg:=ble (bv v 1) (p+q) hq
    have zz:=blu (bv v 1) (p+q)
    have oo:=@lU b (bv v 1) ([bv v 0,bv v 1,bv v 2,bv v 3,bv v 4,bv v 5].drop 2) s p q
    have xx:=@jT b (bv v 1) ([bv v 0,bv v 1,bv v 2,bv v 3,bv v 4,bv v 5].drop 2) s p q
    rw[show [bv v 0,bv v 1,bv v 2,bv v 3,bv v 4,bv v 5].drop 1=bv v 1::[bv v 0,bv v 1,bv v 2,bv v 3,bv v 4,bv v 5].drop 2 from rfl]at hY
    generalize blX b (bv v 1) (ak s (p+q))=y at *
    obtain⟨d,l,er,u⟩:=y
    simp only at bb gg zz oo xx
    rw[w1]at bb
    by_cases h:er=0
    ·subst h
     rw[oo rfl]at hY
     rw[Nat.add_assoc]at bb
     repeat' (first|refine aa.aD ?_|(apply aa.fZ [0,1,2,3,4,5,6,7,8,9,10,11,12,13,14,15,16,17,18,19,20,21,22,23,24,25,26,27,28,29,30,31,32,33,34,35,36] 37;rfl)|refine aR.bQ ?_|(apply aR.go)|(apply aR.pure true;rfl;exact fun _ _ _ h=>h;(iterate 6 rfl);kernel_rfl;kernel_rfl;first|exact True.intro|omega|(simp only[IntKind.bits];omega)|(exact gP v hv _))|refine aR.eO ?_|(apply aR.two;rfl;rfl;rfl;kernel_rfl)|(exact aa.cL)|(apply aa.bV;(repeat' (first|exact bz.nil|(apply bz.cons;rfl)));rfl)|(apply aa.q true;rfl;rfl;rfl;rfl;first|exact True.intro|omega|(simp only[tn,Int.reduceToNat];omega)|(simp only[IntKind.bits];omega)|(exact gP v hv _))|refine aa.az [2] ( bb) ?_|refine aa.ah (ic) ?_|refine aa.ae ?_|refine aa.af ?_|refine aa.ai ?_|refine aa.aA ?_|refine aa.aK ?_|intro _|(apply aa.ed ;rfl)|refine aa.aP ?_|refine aa.aI ?_)
     all_goals first
      |exact aa.round [(7,I 2),(2,I v),(1, .ptr 1 0),(0, .ptr 0 0)] (7 - 2) (by omega) ⟨rfl,rfl,rfl,rfl,trivial⟩ ⟨2,2,0,q+u,[t0,(d,l)],rfl,rfl,by omega,by omega, .inl ⟨rfl,rfl,by rw[←hY];rfl⟩,rfl,rfl⟩
      |omega
    ·obtain⟨rfl,rfl,rfl⟩:=zz h
     rw[xx h]at hY
     rw[Nat.add_zero]at bb
     repeat' (first|refine aa.aD ?_|(apply aa.fZ [0,1,2,3,4,5,6,7,8,9,10,11,12,13,14,15,16,17,18,19,20,21,22,23,24,25,26,27,28,29,30,31,32,33,34,35,36] 37;rfl)|refine aR.bQ ?_|(apply aR.go)|(apply aR.pure true;rfl;exact fun _ _ _ h=>h;(iterate 6 rfl);kernel_rfl;kernel_rfl;first|exact True.intro|omega|(simp only[IntKind.bits];omega)|(exact gP v hv _))|refine aR.eO ?_|(apply aR.two;rfl;rfl;rfl;kernel_rfl)|(exact aa.cL)|(apply aa.bV;(repeat' (first|exact bz.nil|(apply bz.cons;rfl)));rfl)|(apply aa.q true;rfl;rfl;rfl;rfl;first|exact True.intro|omega|(simp only[tn,Int.reduceToNat];omega)|(simp only[IntKind.bits];omega)|(exact gP v hv _))|refine aa.az [2] ( bb) ?_|refine aa.ah (ic) ?_|refine aa.ae ?_|refine aa.af ?_|refine aa.ai ?_|refine aa.aA ?_|refine aa.aK ?_|intro _|(apply aa.ed ;rfl)|refine aa.aP ?_|refine aa.aI ?_)
     all_goals first
      |exact aa.round [(7,I 2),(2,I v),(1, .ptr 1 0),(0, .ptr 0 0)] (7 - 2) (by omega) ⟨rfl,rfl,rfl,rfl,trivial⟩ ⟨2,2,er,q,[t0]++[(0,[])],rfl,rfl,by omega,hq, .inr ⟨h,[t0],rfl,by rw[←hY];rfl⟩,rfl,rfl⟩
      |omega
  ·obtain rfl:j=2:=hj
   match L,hL with
   |[t0,t1],_ =>
    have bb:=bl (bv v 2) (p+q) hq
    have gg:=ble (bv v 2) (p+q) hq
    have zz:=blu (bv v 2) (p+q)
    have oo:=@lU b (bv v 2) ([bv v 0,bv v 1,bv v 2,bv v 3,bv v 4,bv v 5].drop 3) s p q
    have xx:=@jT b (bv v 2) ([bv v 0,bv v 1,bv v 2,bv v 3,bv v 4,bv v 5].drop 3) s p q
    rw[show [bv v 0,bv v 1,bv v 2,bv v 3,bv v 4,bv v 5].drop 2=bv v 2::[bv v 0,bv v 1,bv v 2,bv v 3,bv v 4,bv v 5].drop 3 from rfl]at hY
    generalize blX b (bv v 2) (ak s (p+q))=y at *
    obtain⟨d,l,er,u⟩:=y
    simp only at bb gg zz oo xx
    rw[w2]at bb
    by_cases h:er=0
    ·subst h
     rw[oo rfl]at hY
     rw[Nat.add_assoc]at bb
     repeat' (first|refine aa.aD ?_|(apply aa.fZ [0,1,2,3,4,5,6,7,8,9,10,11,12,13,14,15,16,17,18,19,20,21,22,23,24,25,26,27,28,29,30,31,32,33,34,35,36] 37;rfl)|refine aR.bQ ?_|(apply aR.go)|(apply aR.pure true;rfl;exact fun _ _ _ h=>h;(iterate 6 rfl);kernel_rfl;kernel_rfl;first|exact True.intro|omega|(simp only[IntKind.bits];omega)|(exact gP v hv _))|refine aR.eO ?_|(apply aR.two;rfl;rfl;rfl;kernel_rfl)|(exact aa.cL)|(apply aa.bV;(repeat' (first|exact bz.nil|(apply bz.cons;rfl)));rfl)|(apply aa.q true;rfl;rfl;rfl;rfl;first|exact True.intro|omega|(simp only[tn,Int.reduceToNat];omega)|(simp only[IntKind.bits];omega)|(exact gP v hv _))|refine aa.az [2] ( bb) ?_|refine aa.ah (ic) ?_|refine aa.ae ?_|refine aa.af ?_|refine aa.ai ?_|refine aa.aA ?_|refine aa.aK ?_|intro _|(apply aa.ed ;rfl)|refine aa.aP ?_|refine aa.aI ?_)
     all_goals first
      |exact aa.round [(7,I 3),(2,I v),(1, .ptr 1 0),(0, .ptr 0 0)] (7 - 3) (by omega) ⟨rfl,rfl,rfl,rfl,trivial⟩ ⟨3,3,0,q+u,[t0,t1,(d,l)],rfl,rfl,by omega,by omega, .inl ⟨rfl,rfl,by rw[←hY];rfl⟩,rfl,rfl⟩
      |omega
    ·obtain⟨rfl,rfl,rfl⟩:=zz h
     rw[xx h]at hY
     rw[Nat.add_zero]at bb
     repeat' (first|refine aa.aD ?_|(apply aa.fZ [0,1,2,3,4,5,6,7,8,9,10,11,12,13,14,15,16,17,18,19,20,21,22,23,24,25,26,27,28,29,30,31,32,33,34,35,36] 37;rfl)|refine aR.bQ ?_|(apply aR.go)|(apply aR.pure true;rfl;exact fun _ _ _ h=>h;(iterate 6 rfl);kernel_rfl;kernel_rfl;first|exact True.intro|omega|(simp only[IntKind.bits];omega)|(exact gP v hv _))|refine aR.eO ?_|(apply aR.two;rfl;rfl;rfl;kernel_rfl)|(exact aa.cL)|(apply aa.bV;(repeat' (first|exact bz.nil|(apply bz.cons;rfl)));rfl)|(apply aa.q true;rfl;rfl;rfl;rfl;first|exact True.intro|omega|(simp only[tn,Int.reduceToNat];omega)|(simp only[IntKind.bits];omega)|(exact gP v hv _))|refine aa.az [2] ( bb) ?_|refine aa.ah (ic) ?_|refine aa.ae ?_|refine aa.af ?_|refine aa.ai ?_|refine aa.aA ?_|refine aa.aK ?_|intro _|(apply aa.ed ;rfl)|refine aa.aP ?_|refine aa.aI ?_)
     all_goals first
      |exact aa.round [(7,I 3),(2,I v),(1, .ptr 1 0),(0, .ptr 0 0)] (7 - 3) (by omega) ⟨rfl,rfl,rfl,rfl,trivial⟩ ⟨3,3,er,q,[t0,t1]++[(0,[])],rfl,rfl,by omega,hq, .inr ⟨h,[t0,t1],rfl,by rw[←hY];rfl⟩,rfl,rfl⟩
      |omega
  ·obtain rfl:j=3:=hj
   match L,hL with
   |[t0,t1,t2],_ =>
    have bb:=bl (bv v 3) (p+q) hq
    have gg:=ble (bv v 3) (p+q) hq
    have zz:=blu (bv v 3) (p+q)
    have oo:=@lU b (bv v 3) ([bv v 0,bv v 1,bv v 2,bv v 3,bv v 4,bv v 5].drop 4) s p q
    have xx:=@jT b (bv v 3) ([bv v 0,bv v 1,bv v 2,bv v 3,bv v 4,bv v 5].drop 4) s p q
    rw[show [bv v 0,bv v 1,bv v 2,bv v 3,bv v 4,bv v 5].drop 3=bv v 3::[bv v 0,bv v 1,bv v 2,bv v 3,bv v 4,bv v 5].drop 4 from rfl]at hY
    generalize blX b (bv v 3) (ak s (p+q))=y at *
    obtain⟨d,l,er,u⟩:=y
    simp only at bb gg zz oo xx
    rw[w3]at bb
    by_cases h:er=0
    ·subst h
     rw[oo rfl]at hY
     rw[Nat.add_assoc]at bb
     repeat' (first|refine aa.aD ?_|(apply aa.fZ [0,1,2,3,4,5,6,7,8,9,10,11,12,13,14,15,16,17,18,19,20,21,22,23,24,25,26,27,28,29,30,31,32,33,34,35,36] 37;rfl)|refine aR.bQ ?_|(apply aR.go)|(apply aR.pure true;rfl;exact fun _ _ _ h=>h;(iterate 6 rfl);kernel_rfl;kernel_rfl;first|exact True.intro|omega|(simp only[IntKind.bits];omega)|(exact gP v hv _))|refine aR.eO ?_|(apply aR.two;rfl;rfl;rfl;kernel_rfl)|(exact aa.cL)|(apply aa.bV;(repeat' (first|exact bz.nil|(apply bz.cons;rfl)));rfl)|(apply aa.q true;rfl;rfl;rfl;rfl;first|exact True.intro|omega|(simp only[tn,Int.reduceToNat];omega)|(simp only[IntKind.bits];omega)|(exact gP v hv _))|refine aa.az [2] ( bb) ?_|refine aa.ah (ic) ?_|refine aa.ae ?_|refine aa.af ?_|refine aa.ai ?_|refine aa.aA ?_|refine aa.aK ?_|intro _|(apply aa.ed ;rfl)|refine aa.aP ?_|refine aa.aI ?_)
     all_goals first
      |exact aa.round [(7,I 4),(2,I v),(1, .ptr 1 0),(0, .ptr 0 0)] (7 - 4) (by omega) ⟨rfl,rfl,rfl,rfl,trivial⟩ ⟨4,4,0,q+u,[t0,t1,t2,(d,l)],rfl,rfl,by omega,by omega, .inl ⟨rfl,rfl,by rw[←hY];rfl⟩,rfl,rfl⟩
      |omega
    ·obtain⟨rfl,rfl,rfl⟩:=zz h
     rw[xx h]at hY
     rw[Nat.add_zero]at bb
     repeat' (first|refine aa.aD ?_|(apply aa.fZ [0,1,2,3,4,5,6,7,8,9,10,11,12,13,14,15,16,17,18,19,20,21,22,23,24,25,26,27,28,29,30,31,32,33,34,35,36] 37;rfl)|refine aR.bQ ?_|(apply aR.go)|(apply aR.pure true;rfl;exact fun _ _ _ h=>h;(iterate 6 rfl);kernel_rfl;kernel_rfl;first|exact True.intro|omega|(simp only[IntKind.bits];omega)|(exact gP v hv _))|refine aR.eO ?_|(apply aR.two;rfl;rfl;rfl;kernel_rfl)|(exact aa.cL)|(apply aa.bV;(repeat' (first|exact bz.nil|(apply bz.cons;rfl)));rfl)|(apply aa.q true;rfl;rfl;rfl;rfl;first|exact True.intro|omega|(simp only[tn,Int.reduceToNat];omega)|(simp only[IntKind.bits];omega)|(exact gP v hv _))|refine aa.az [2] ( bb) ?_|refine aa.ah (ic) ?_|refine aa.ae ?_|refine aa.af ?_|refine aa.ai ?_|refine aa.aA ?_|refine aa.aK ?_|intro _|(apply aa.ed ;rfl)|refine aa.aP ?_|refine aa.aI ?_)
     all_goals first
      |exact aa.round [(7,I 4),(2,I v),(1, .ptr 1 0),(0, .ptr 0 0)] (7 - 4) (by omega) ⟨rfl,rfl,rfl,rfl,trivial⟩ ⟨4,4,er,q,[t0,t1,t2]++[(0,[])],rfl,rfl,by omega,hq, .inr ⟨h,[t0,t1,t2],rfl,by rw[←hY];rfl⟩,rfl,rfl⟩
      |omega
  ·obtain rfl:j=4:=hj
   match L,hL with
   |[t0,t1,t2,t3],_ =>
    have bb:=bl (bv v 4) (p+q) hq
    have gg:=ble (bv v 4) (p+q) hq
    have zz:=blu (bv v 4) (p+q)
    have oo:=@lU b (bv v 4) ([bv v 0,bv v 1,bv v 2,bv v 3,bv v 4,bv v 5].drop 5) s p q
    have xx:=@jT b (bv v 4) ([bv v 0,bv v 1,bv v 2,bv v 3,bv v 4,bv v 5].drop 5) s p q
    rw[show [bv v 0,bv v 1,bv v 2,bv v 3,bv v 4,bv v 5].drop 4=bv v 4::[bv v 0,bv v 1,bv v 2,bv v 3,bv v 4,bv v 5].drop 5 from rfl]at hY
    generalize blX b (bv v 4) (ak s (p+q))=y at *
    obtain⟨d,l,er,u⟩:=y
    simp only at bb gg zz oo xx
    rw[w4]at bb
    by_cases h:er=0
    ·subst h
     rw[oo rfl]at hY
     rw[Nat.add_assoc]at bb
     repeat' (first|refine aa.aD ?_|(apply aa.fZ [0,1,2,3,4,5,6,7,8,9,10,11,12,13,14,15,16,17,18,19,20,21,22,23,24,25,26,27,28,29,30,31,32,33,34,35,36] 37;rfl)|refine aR.bQ ?_|(apply aR.go)|(apply aR.pure true;rfl;exact fun _ _ _ h=>h;(iterate 6 rfl);kernel_rfl;kernel_rfl;first|exact True.intro|omega|(simp only[IntKind.bits];omega)|(exact gP v hv _))|refine aR.eO ?_|(apply aR.two;rfl;rfl;rfl;kernel_rfl)|(exact aa.cL)|(apply aa.bV;(repeat' (first|exact bz.nil|(apply bz.cons;rfl)));rfl)|(apply aa.q true;rfl;rfl;rfl;rfl;first|exact True.intro|omega|(simp only[tn,Int.reduceToNat];omega)|(simp only[IntKind.bits];omega)|(exact gP v hv _))|refine aa.az [2] ( bb) ?_|refine aa.ah (ic) ?_|refine aa.ae ?_|refine aa.af ?_|refine aa.ai ?_|refine aa.aA ?_|refine aa.aK ?_|intro _|(apply aa.ed ;rfl)|refine aa.aP ?_|refine aa.aI ?_)
     all_goals first
      |exact aa.round [(7,I 5),(2,I v),(1, .ptr 1 0),(0, .ptr 0 0)] (7 - 5) (by omega) ⟨rfl,rfl,rfl,rfl,trivial⟩ ⟨5,5,0,q+u,[t0,t1,t2,t3,(d,l)],rfl,rfl,by omega,by omega, .inl ⟨rfl,rfl,by rw[←hY];rfl⟩,rfl,rfl⟩
      |omega
    ·obtain⟨rfl,rfl,rfl⟩:=zz h
     rw[xx h]at hY
     rw[Nat.add_zero]at bb
     repeat' (first|refine aa.aD ?_|(apply aa.fZ [0,1,2,3,4,5,6,7,8,9,10,11,12,13,14,15,16,17,18,19,20,21,22,23,24,25,26,27,28,29,30,31,32,33,34,35,36] 37;rfl)|refine aR.bQ ?_|(apply aR.go)|(apply aR.pure true;rfl;exact fun _ _ _ h=>h;(iterate 6 rfl);kernel_rfl;kernel_rfl;first|exact True.intro|omega|(simp only[IntKind.bits];omega)|(exact gP v hv _))|refine aR.eO ?_|(apply aR.two;rfl;rfl;rfl;kernel_rfl)|(exact aa.cL)|(apply aa.bV;(repeat' (first|exact bz.nil|(apply bz.cons;rfl)));rfl)|(apply aa.q true;rfl;rfl;rfl;rfl;first|exact True.intro|omega|(simp only[tn,Int.reduceToNat];omega)|(simp only[IntKind.bits];omega)|(exact gP v hv _))|refine aa.az [2] ( bb) ?_|refine aa.ah (ic) ?_|refine aa.ae ?_|refine aa.af ?_|refine aa.ai ?_|refine aa.aA ?_|refine aa.aK ?_|intro _|(apply aa.ed ;rfl)|refine aa.aP ?_|refine aa.aI ?_)
     all_goals first
      |exact aa.round [(7,I 5),(2,I v),(1, .ptr 1 0),(0, .ptr 0 0)] (7 - 5) (by omega) ⟨rfl,rfl,rfl,rfl,trivial⟩ ⟨5,5,er,q,[t0,t1,t2,t3]++[(0,[])],rfl,rfl,by omega,hq, .inr ⟨h,[t0,t1,t2,t3],rfl,by rw[←hY];rfl⟩,rfl,rfl⟩
      |omega
  ·obtain rfl:j=5:=hj
   match L,hL with
   |[t0,t1,t2,t3,t4],_ =>
    have bb:=bl (bv v 5) (p+q) hq
    have gg:=ble (bv v 5) (p+q) hq
    have zz:=blu (bv v 5) (p+q)
    have oo:=@lU b (bv v 5) ([bv v 0,bv v 1,bv v 2,bv v 3,bv v 4,bv v 5].drop 6) s p q
    have xx:=@jT b (bv v 5) ([bv v 0,bv v 1,bv v 2,bv v 3,bv v 4,bv v 5].drop 6) s p q
    rw[show [bv v 0,bv v 1,bv v 2,bv v 3,bv v 4,bv v 5].drop 5=bv v 5::[bv v 0,bv v 1,bv v 2,bv v 3,bv v 4,bv v 5].drop 6 from rfl]at hY
    generalize blX b (bv v 5) (ak s (p+q))=y at *
    obtain⟨d,l,er,u⟩:=y
    simp only at bb gg zz oo xx
    rw[w5]at bb
    by_cases h:er=0
    ·subst h
     rw[oo rfl]at hY
     rw[Nat.add_assoc]at bb
     repeat' (first|refine aa.aD ?_|(apply aa.fZ [0,1,2,3,4,5,6,7,8,9,10,11,12,13,14,15,16,17,18,19,20,21,22,23,24,25,26,27,28,29,30,31,32,33,34,35,36] 37;rfl)|refine aR.bQ ?_|(apply aR.go)|(apply aR.pure true;rfl;exact fun _ _ _ h=>h;(iterate 6 rfl);kernel_rfl;kernel_rfl;first|exact True.intro|omega|(simp only[IntKind.bits];omega)|(exact gP v hv _))|refine aR.eO ?_|(apply aR.two;rfl;rfl;rfl;kernel_rfl)|(exact aa.cL)|(apply aa.bV;(repeat' (first|exact bz.nil|(apply bz.cons;rfl)));rfl)|(apply aa.q true;rfl;rfl;rfl;rfl;first|exact True.intro|omega|(simp only[tn,Int.reduceToNat];omega)|(simp only[IntKind.bits];omega)|(exact gP v hv _))|refine aa.az [2] ( bb) ?_|refine aa.ah (ic) ?_|refine aa.ae ?_|refine aa.af ?_|refine aa.ai ?_|refine aa.aA ?_|refine aa.aK ?_|intro _|(apply aa.ed ;rfl)|refine aa.aP ?_|refine aa.aI ?_)
     all_goals first
      |exact aa.round [(7,I 6),(2,I v),(1, .ptr 1 0),(0, .ptr 0 0)] (7 - 6) (by omega) ⟨rfl,rfl,rfl,rfl,trivial⟩ ⟨6,6,0,q+u,[t0,t1,t2,t3,t4,(d,l)],rfl,rfl,by omega,by omega, .inl ⟨rfl,rfl,by rw[←hY];rfl⟩,rfl,rfl⟩
      |omega
    ·obtain⟨rfl,rfl,rfl⟩:=zz h
     rw[xx h]at hY
     rw[Nat.add_zero]at bb
     repeat' (first|refine aa.aD ?_|(apply aa.fZ [0,1,2,3,4,5,6,7,8,9,10,11,12,13,14,15,16,17,18,19,20,21,22,23,24,25,26,27,28,29,30,31,32,33,34,35,36] 37;rfl)|refine aR.bQ ?_|(apply aR.go)|(apply aR.pure true;rfl;exact fun _ _ _ h=>h;(iterate 6 rfl);kernel_rfl;kernel_rfl;first|exact True.intro|omega|(simp only[IntKind.bits];omega)|(exact gP v hv _))|refine aR.eO ?_|(apply aR.two;rfl;rfl;rfl;kernel_rfl)|(exact aa.cL)|(apply aa.bV;(repeat' (first|exact bz.nil|(apply bz.cons;rfl)));rfl)|(apply aa.q true;rfl;rfl;rfl;rfl;first|exact True.intro|omega|(simp only[tn,Int.reduceToNat];omega)|(simp only[IntKind.bits];omega)|(exact gP v hv _))|refine aa.az [2] ( bb) ?_|refine aa.ah (ic) ?_|refine aa.ae ?_|refine aa.af ?_|refine aa.ai ?_|refine aa.aA ?_|refine aa.aK ?_|intro _|(apply aa.ed ;rfl)|refine aa.aP ?_|refine aa.aI ?_)
     all_goals first
      |exact aa.round [(7,I 6),(2,I v),(1, .ptr 1 0),(0, .ptr 0 0)] (7 - 6) (by omega) ⟨rfl,rfl,rfl,rfl,trivial⟩ ⟨6,6,er,q,[t0,t1,t2,t3,t4]++[(0,[])],rfl,rfl,by omega,hq, .inr ⟨h,[t0,t1,t2,t3,t4],rfl,by rw[←hY];rfl⟩,rfl,rfl⟩
      |omega
  ·obtain rfl:j=6:=hj
   have hY6:Y=(L,0,q):=by rw[←hY];unfold bdA bdX;simp
   rw[hY6]
   simp only[if_true]
   repeat' (first|refine aa.aD ?_|refine aa.bh true ?_|refine aa.ae ?_|refine aa.af ?_|refine aa.ai ?_|refine aa.aA ?_|refine aa.aK ?_|((first|(apply aa.Me;rfl;rfl;rfl;exact qQ _ _ _ _ _ _ _ _ _)|(apply aa.Li;rfl;rfl;rfl;exact qQ _ _ _ _ _ _ _ _ _)))|intro _|(apply aa.ed ;rfl)|refine aa.aP ?_|refine aa.aI ?_)
   all_goals first|exact⟨rfl,rfl⟩|omega
 ·simp only[if_neg he]
  repeat' (first|refine aa.aD ?_|refine aa.bh true ?_|refine aa.ae ?_|refine aa.af ?_|refine aa.ai ?_|refine aa.aA ?_|refine aa.aK ?_|((first|(apply aa.Me;rfl;rfl;rfl;exact qQ _ _ _ _ _ _ _ _ _)|(apply aa.Li;rfl;rfl;rfl;exact qQ _ _ _ _ _ _ _ _ _)))|intro _|(apply aa.ed ;rfl)|refine aa.aP ?_|refine aa.aI ?_)
  all_goals first
   |exact⟨rfl,rfl⟩
   |omega
end Ci
end Go.Proofs.YtbpednchkndocaaGreatDoor.Av
