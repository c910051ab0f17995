/- Cells are read: the document's Take, cells of kind 4. -/
import Derived.Test.YtbpednchkndocaaGreatDoorPq7
set_option linter.unusedVariables false
set_option linter.unusedSimpArgs false
set_option maxRecDepth 100000
set_option maxHeartbeats 64000000
namespace Go.Proofs.YtbpednchkndocaaGreatDoor.Av
namespace Ci
open Go Bt Tc Co Bl
attribute [local irreducible] aa ACalls aO aC bB aR
variable {gl:List (Nat×List D)}
attribute [local irreducible] blX ak Tc.cn bv cbN mvN stN cW aS
theorem La (b:Bool) (px py st ch:Int) (u:Nat) (s:List UInt8) (p:Nat) (hpx:I64 px) (hpy:I64 py) (hs:s.length≤100000) (hch:0≤ch∧ch≤3) (hu:p+u≤8*s.length)
  (rb:ACalls (cxg gl) 132 [S (aS s),I p,B b] [] (fun r H=>r = .bK [.d (AA st false 4),I ch,I ((p+u:Nat):Int),I 0]∧H=[])) :
  ACalls (cxg gl) 62 [S (aS s),I p,B b, .d (.agg [In px,In py])] []
  (fun r H=>r = .bK [.d (gz (kH px py (ak s p) ⟨st,false,4,ch,0,u⟩).1),I ((p+(kH px py (ak s p) ⟨st,false,4,ch,0,u⟩).2.2:Nat):Int),I (kH px py (ak s p) ⟨st,false,4,ch,0,u⟩).2.1]∧H=[]):=by
 have e00:cn []=[]:=by unfold Tc.cn;rfl
 have hI:bf 4=true:=rfl
 have hS:dP 4=true:=rfl
 have ri:=jH (gl:=gl) 4
 rw[hI]at ri
 have w1:=iQ (gl:=gl) px hpx
 have w2:=iQ (gl:=gl) py hpy
 have wb1:=gY px
 have wb2:=gY py
 have ww:=fun n h=>iQ (gl:=gl) n h
 have hBl:=bY s
 have bl:=fun c q hq=>oz (gl:=gl) s q true c hs hq
 have ble:=fun c q hq=>rX true c s q hq
 unfold kH
 simp only[ne_eq,not_true_eq_false,if_false,Bool.false_eq_true,bX,hI]
 obtain⟨M,hM⟩:∃M,M=mdX 4 px py (ak s (p+u)):=⟨_,rfl⟩
 rw[←hM]
 unfold mdX mdM at hM
 simp only[bX,hI,hS,if_true,Bool.false_eq_true,if_false]at hM
 have cb:=xD (gl:=gl) true s (p+u) hs hu
 have cl:=pX true (ak s (p+u))
 have cp:=qU true (ak s (p+u))
 rw[hBl]at cl
 generalize cbN true (ak s (p+u))=x at *
 obtain⟨pat,ce,cu⟩:=x
 simp only at cb cl cp hM
 by_cases hce:ce=0
 ·subst hce
  simp only[ne_eq,not_true_eq_false,if_false]at hM
  have st1:=FN (gl:=gl) s (p+u+cu) hs (by omega)
  have sl1:=xn (ak s (p+u+cu))
  rw[hBl]at sl1
  generalize stN (ak s (p+u+cu))=t at *
  obtain⟨sp,se,su⟩:=t
  simp only at st1 sl1 hM
  by_cases hse:se=0
  ·subst hse
   simp only[not_true_eq_false,if_false]at hM
   subst hM
   simp only[not_true_eq_false,if_false]
   generalize hY:bdX true (cds (4*pat+ch)) (ak s (p+u)) (cu+su)=Y
   unfold cds at hY
   refine ACalls.en Tryz.func62 Tryz.ntmps62 ?_
   repeat' (first|refine aa.aD ?_|(apply aa.cg [0,1,2,3,4,5,6,7,8,9,10,11,12,13,14,15,16,17,18,19] 20 20;rfl)|(apply aO.bi;rfl;(apply aQ.q true;rfl;rfl;first|exact True.intro|omega);exact fun _ _ _ h=>h;(iterate 6 rfl);kernel_rfl;kernel_rfl)|refine aO.cf ?_|(apply aO.go)|refine aC.bQ ?_|(apply aC.bi;rfl;(apply aQ.q true;rfl;rfl;first|exact True.intro|omega);exact fun _ _ _ h=>h;(iterate 6 rfl);kernel_rfl;kernel_rfl)|refine aC.aH (rb) ?_|refine aC.aH (ri) ?_|refine aC.aH (cb) ?_|refine aC.aH (st1) ?_|(exact aa.cL)|refine aa.bh true ?_|refine aa.ah (rb) ?_|refine aa.ah (ri) ?_|refine aa.ah (cb) ?_|refine aa.ah (st1) ?_|refine aa.aW ?_|refine aa.ae ?_|refine aa.af ?_|refine aa.au ?_|refine aa.ai ?_|refine aa.aG ?_|refine aa.ba ?_|refine aa.aA ?_|refine aa.aL ?_|refine aa.aj ?_|refine aa.aK ?_|intro _|refine aa.av ?_|refine aa.aI ?_)
   apply aa.cK
   repeat' (first|refine aa.aD ?_|(apply aa.cg [0,1,2,3,4,5,6,7,8,9,10,11,12,13,14,15,16,17,18,19] 20 20;rfl)|(apply aO.bi;rfl;(apply aQ.q true;rfl;rfl;first|exact True.intro|omega);exact fun _ _ _ h=>h;(iterate 6 rfl);kernel_rfl;kernel_rfl)|refine aO.cf ?_|(apply aO.go)|refine aC.bQ ?_|(apply aC.bi;rfl;(apply aQ.q true;rfl;rfl;first|exact True.intro|omega);exact fun _ _ _ h=>h;(iterate 6 rfl);kernel_rfl;kernel_rfl)|refine aC.aH (rb) ?_|refine aC.aH (ri) ?_|refine aC.aH (cb) ?_|refine aC.aH (st1) ?_|(exact aa.cL)|refine aa.bh true ?_|refine aa.ah (rb) ?_|refine aa.ah (ri) ?_|refine aa.ah (cb) ?_|refine aa.ah (st1) ?_|refine aa.aW ?_|refine aa.ae ?_|refine aa.af ?_|refine aa.au ?_|refine aa.ai ?_|refine aa.aG ?_|refine aa.ba ?_|refine aa.aA ?_|refine aa.aL ?_|refine aa.aj ?_|refine aa.aK ?_|intro _|refine aa.av ?_|refine aa.aI ?_)
   refine aa.weak (env':=[(24,I 0),(23,I 32),(15,I (4*pat+ch)),(13,I ((p+u+cu+su:Nat):Int)),(11, .ptr 2 0),(8, .ptr 1 0),(1,I p),(0,S (aS s))]) ⟨rfl,rfl,rfl,rfl,rfl,rfl,rfl,rfl,trivial⟩ ?_
   refine aa.loop (fun m env H=>∃(i:Nat) (j y:Int) (q:Nat) (L:List (Int×List Ev)),j=i∧y=32 / 2^i∧m=6 - i∧i≤6∧p+u+cu+su+q≤8*s.length∧L.length=i∧bdA L (bdX true (List.drop i [bv (4*pat+ch) 0,bv (4*pat+ch) 1,bv (4*pat+ch) 2,bv (4*pat+ch) 3,bv (4*pat+ch) 4,bv (4*pat+ch) 5]) (ak s (p+u)) (cu+su+q))=Y∧env=[(24,I j),(23,I y),(15,I (4*pat+ch)),(13,I ((p+u+cu+su+q:Nat):Int)),(11, .ptr 2 0),(8, .ptr 1 0),(1,I p),(0,S (aS s))]∧H=[.cells [I px,I py], .cells (vR 0 false 0), .cells (vA st 4 sp 0 0 L)]) 6
    ⟨0,0,32,0,[],rfl,rfl,rfl,by omega,by omega,rfl,hY,rfl,rfl⟩ ?_
   rintro m env H ⟨i,j,y,q,L,hj,hy,rfl,hi,hq,hL,hY,rfl,rfl⟩
   rcases Nat.lt_or_ge i 6 with hi6|hi6
   ·obtain⟨f,rfl⟩:=xP L hL
    have hdr:List.drop i [bv (4*pat+ch) 0,bv (4*pat+ch) 1,bv (4*pat+ch) 2,bv (4*pat+ch) 3,bv (4*pat+ch) 4,bv (4*pat+ch) 5]=bv (4*pat+ch) i::List.drop (i+1) [bv (4*pat+ch) 0,bv (4*pat+ch) 1,bv (4*pat+ch) 2,bv (4*pat+ch) 3,bv (4*pat+ch) 4,bv (4*pat+ch) 5]:=by
     rcases (show i=0∨i=1∨i=2∨i=3∨i=4∨i=5 by omega)with rfl|rfl|rfl|rfl|rfl|rfl<;>rfl
    have bb:=bl (bv (4*pat+ch) i) (p+u+cu+su+q) hq
    have gg:=ble (bv (4*pat+ch) i) (p+u+cu+su+q) hq
    have oo:=@lU true (bv (4*pat+ch) i) (List.drop (i+1) [bv (4*pat+ch) 0,bv (4*pat+ch) 1,bv (4*pat+ch) 2,bv (4*pat+ch) 3,bv (4*pat+ch) 4,bv (4*pat+ch) 5]) s (p+u) (cu+su+q)
    have xx:=@jT true (bv (4*pat+ch) i) (List.drop (i+1) [bv (4*pat+ch) 0,bv (4*pat+ch) 1,bv (4*pat+ch) 2,bv (4*pat+ch) 3,bv (4*pat+ch) 4,bv (4*pat+ch) 5]) s (p+u) (cu+su+q)
    rw[show p+u+(cu+su+q)=p+u+cu+su+q by omega]at oo xx
    rw[hdr]at hY
    generalize blX true (bv (4*pat+ch) i) (ak s (p+u+cu+su+q))=z at *
    obtain⟨d,l,er,uu⟩:=z
    simp only at bb gg oo xx
    rw[Dx (4*pat+ch) i y (by rw[hy];exact CI i hi6)]at bb
    obtain⟨i',hi'⟩:∃i',i'=i:=⟨i,rfl⟩
    by_cases h:er=0
    ·subst h
     rw[oo rfl]at hY
     rw[Nat.add_assoc (p+u+cu+su)]at bb
     rcases (show i=0∨i=1∨i=2∨i=3∨i=4∨i=5 by omega)with hc|hc|hc|hc|hc|hc
     all_goals
      first
       |(obtain rfl:i=0:=hc;obtain rfl:j=0:=hj;obtain rfl:y=32:=hy)
       |(obtain rfl:i=1:=hc;obtain rfl:j=1:=hj;obtain rfl:y=16:=hy)
       |(obtain rfl:i=2:=hc;obtain rfl:j=2:=hj;obtain rfl:y=8:=hy)
       |(obtain rfl:i=3:=hc;obtain rfl:j=3:=hj;obtain rfl:y=4:=hy)
       |(obtain rfl:i=4:=hc;obtain rfl:j=4:=hj;obtain rfl:y=2:=hy)
       |(obtain rfl:i=5:=hc;obtain rfl:j=5:=hj;obtain rfl:y=1:=hy)
      repeat' (first|refine aa.aD ?_|(apply aa.cg [0,1,2,3,4,5,6,7,8,9,10,11,12,13,14,15,16,17,18,19] 20 20;rfl)|(apply aO.bi;rfl;(apply aQ.q true;rfl;rfl;first|exact True.intro|omega);exact fun _ _ _ h=>h;(iterate 6 rfl);kernel_rfl;kernel_rfl)|refine aO.cf ?_|(apply aO.go)|refine aC.bQ ?_|(apply aC.bi;rfl;(apply aQ.q true;rfl;rfl;first|exact True.intro|omega);exact fun _ _ _ h=>h;(iterate 6 rfl);kernel_rfl;kernel_rfl)|refine aC.aH (ri) ?_|refine aC.aH (bb) ?_|(exact aa.cL)|refine aa.bh true ?_|refine aa.ah (ri) ?_|refine aa.ah (bb) ?_|refine aa.aW ?_|refine aa.ae ?_|refine aa.af ?_|refine aa.au ?_|refine aa.ai ?_|refine aa.aG ?_|refine aa.ba ?_|refine aa.aA ?_|refine aa.aL ?_|refine aa.aj ?_|refine aa.aK ?_|intro _|refine aa.av ?_|refine aa.aI ?_)
      all_goals first
       |exact aa.round [(24,I ((i':Int)+1)),(23,I (32 / 2^(i'+1))),(15,I (4*pat+ch)),(13,I ((p+u+cu+su+(q+uu):Nat):Int)),(11, .ptr 2 0),(8, .ptr 1 0),(1,I p),(0,S (aS s))] (6 - (i'+1)) (by omega) (by subst hi';exact⟨rfl,rfl,rfl,rfl,rfl,rfl,rfl,rfl,trivial⟩)
         ⟨i'+1,(i':Int)+1,32 / 2^(i'+1),q+uu,(List.range i').map f++[(d,l)],rfl,rfl,rfl,by omega,by omega,by simp,by subst hi';rw[←hY,←Nat.add_assoc];rfl,rfl,by subst hi';rfl⟩
       |omega
    ·have hY2:Y=((List.range i).map f,er,cu+su+q):=by rw[←hY,xx h];simp[bdA]
     subst hY2
     rw[if_pos h]
     simp only[Nat.add_zero]
     rcases (show i=0∨i=1∨i=2∨i=3∨i=4∨i=5 by omega)with hc|hc|hc|hc|hc|hc
     all_goals
      first
       |(obtain rfl:i=0:=hc;obtain rfl:j=0:=hj;obtain rfl:y=32:=hy)
       |(obtain rfl:i=1:=hc;obtain rfl:j=1:=hj;obtain rfl:y=16:=hy)
       |(obtain rfl:i=2:=hc;obtain rfl:j=2:=hj;obtain rfl:y=8:=hy)
       |(obtain rfl:i=3:=hc;obtain rfl:j=3:=hj;obtain rfl:y=4:=hy)
       |(obtain rfl:i=4:=hc;obtain rfl:j=4:=hj;obtain rfl:y=2:=hy)
       |(obtain rfl:i=5:=hc;obtain rfl:j=5:=hj;obtain rfl:y=1:=hy)
      repeat' (first|refine aa.aD ?_|(apply aa.cg [0,1,2,3,4,5,6,7,8,9,10,11,12,13,14,15,16,17,18,19] 20 20;rfl)|(apply aO.bi;rfl;(apply aQ.q true;rfl;rfl;first|exact True.intro|omega);exact fun _ _ _ h=>h;(iterate 6 rfl);kernel_rfl;kernel_rfl)|refine aO.cf ?_|(apply aO.go)|refine aC.bQ ?_|(apply aC.bi;rfl;(apply aQ.q true;rfl;rfl;first|exact True.intro|omega);exact fun _ _ _ h=>h;(iterate 6 rfl);kernel_rfl;kernel_rfl)|refine aC.aH (ri) ?_|refine aC.aH (bb) ?_|(exact aa.cL)|refine aa.bh true ?_|refine aa.ah (ri) ?_|refine aa.ah (bb) ?_|refine aa.aW ?_|refine aa.ae ?_|refine aa.af ?_|refine aa.au ?_|refine aa.ai ?_|refine aa.aG ?_|refine aa.ba ?_|refine aa.aA ?_|refine aa.aL ?_|refine aa.aj ?_|refine aa.aK ?_|(apply aa.kU (.bK [.d (gz lC),I p,I er]);rfl;exact aT.bK ⟨aT.d (cJ 0 false),aT.refl _,aT.refl _,trivial⟩;rfl;rfl;rfl)|intro _|refine aa.av ?_|refine aa.aI ?_)
      all_goals first|exact⟨rfl,rfl⟩|omega
   ·obtain rfl:i=6:=by omega
    obtain rfl:j=6:=hj
    match L,hL with
    |[t0,t1,t2,t3,t4,t5],_ =>
     have hY6:Y=([t0,t1,t2,t3,t4,t5],0,cu+su+q):=by rw[←hY];rfl
     subst hY6
     simp only[not_true_eq_false,if_false]
     simp only[←Nat.add_assoc]
     repeat' (first|refine aa.aD ?_|refine aa.bh true ?_|refine aa.aW ?_|refine aa.ae ?_|refine aa.af ?_|refine aa.au ?_|refine aa.ai ?_|refine aa.aG ?_|refine aa.ba ?_|refine aa.aA ?_|refine aa.aL ?_|refine aa.aj ?_|refine aa.aK ?_|intro _|refine aa.av ?_|refine aa.aI ?_)
     all_goals first|exact⟨rfl,rfl⟩|omega
  ·rw[if_pos hse]at hM
   subst hM
   rw[if_pos hse]
   simp only[Nat.add_zero]
   refine ACalls.en Tryz.func62 Tryz.ntmps62 ?_
   repeat' (first|refine aa.aD ?_|(apply aa.cg [0,1,2,3,4,5,6,7,8,9,10,11,12,13,14,15,16,17,18,19] 20 20;rfl)|(apply aO.bi;rfl;(apply aQ.q true;rfl;rfl;first|exact True.intro|omega);exact fun _ _ _ h=>h;(iterate 6 rfl);kernel_rfl;kernel_rfl)|refine aO.cf ?_|(apply aO.go)|refine aC.bQ ?_|(apply aC.bi;rfl;(apply aQ.q true;rfl;rfl;first|exact True.intro|omega);exact fun _ _ _ h=>h;(iterate 6 rfl);kernel_rfl;kernel_rfl)|refine aC.aH (rb) ?_|refine aC.aH (ri) ?_|refine aC.aH (cb) ?_|refine aC.aH (st1) ?_|(exact aa.cL)|refine aa.bh true ?_|refine aa.ah (rb) ?_|refine aa.ah (ri) ?_|refine aa.ah (cb) ?_|refine aa.ah (st1) ?_|refine aa.aW ?_|refine aa.ae ?_|refine aa.af ?_|refine aa.au ?_|refine aa.ai ?_|refine aa.aG ?_|refine aa.ba ?_|refine aa.aA ?_|refine aa.aL ?_|refine aa.aj ?_|refine aa.aK ?_|(apply aa.gN (.bK [.d (gz lC),I p,I se]);rfl;exact aT.bK ⟨aT.d (cJ 0 false),aT.refl _,aT.refl _,trivial⟩;rfl;rfl;rfl)|apply aa.cK|intro _|refine aa.av ?_|refine aa.aI ?_)
   all_goals first|exact⟨rfl,rfl⟩|omega
 ·rw[if_pos hce]at hM
  subst hM
  rw[if_pos hce]
  simp only[Nat.add_zero]
  refine ACalls.en Tryz.func62 Tryz.ntmps62 ?_
  repeat' (first|refine aa.aD ?_|(apply aa.cg [0,1,2,3,4,5,6,7,8,9,10,11,12,13,14,15,16,17,18,19] 20 20;rfl)|(apply aO.bi;rfl;(apply aQ.q true;rfl;rfl;first|exact True.intro|omega);exact fun _ _ _ h=>h;(iterate 6 rfl);kernel_rfl;kernel_rfl)|refine aO.cf ?_|(apply aO.go)|refine aC.bQ ?_|(apply aC.bi;rfl;(apply aQ.q true;rfl;rfl;first|exact True.intro|omega);exact fun _ _ _ h=>h;(iterate 6 rfl);kernel_rfl;kernel_rfl)|refine aC.aH (rb) ?_|refine aC.aH (ri) ?_|refine aC.aH (cb) ?_|(exact aa.cL)|refine aa.bh true ?_|refine aa.ah (rb) ?_|refine aa.ah (ri) ?_|refine aa.ah (cb) ?_|refine aa.aW ?_|refine aa.ae ?_|refine aa.af ?_|refine aa.au ?_|refine aa.ai ?_|refine aa.aG ?_|refine aa.ba ?_|refine aa.aA ?_|refine aa.aL ?_|refine aa.aj ?_|refine aa.aK ?_|(apply aa.gN (.bK [.d (gz lC),I p,I ce]);rfl;exact aT.bK ⟨aT.d (cJ 0 false),aT.refl _,aT.refl _,trivial⟩;rfl;rfl;rfl)|apply aa.cK|intro _|refine aa.av ?_|refine aa.aI ?_)
  all_goals first|exact⟨rfl,rfl⟩|omega
end Ci
end Go.Proofs.YtbpednchkndocaaGreatDoor.Av
