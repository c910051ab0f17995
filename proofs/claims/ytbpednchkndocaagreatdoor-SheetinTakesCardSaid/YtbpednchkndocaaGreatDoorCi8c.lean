/- Cells are read: the document's Take, cells of kind 3. -/
import Derived.Test.YtbpednchkndocaaGreatDoorPq7
set_option linter.unusedVariables false
set_option linter.unusedSimpArgs false
set_option maxRecDepth 100000
set_option maxHeartbeats 64000000
namespace Go.Proofs.YtbpednchkndocaaGreatDoor.Av
namespace Ci
open Go Bt Tc Co Bl
attribute [local irreducible] aa ACalls av ai aN aB
variable {gl:List (Nat×List D)}
attribute [local irreducible] blX af Tc.bB aL cbN mvN stN bW aC
theorem K9 (b:Bool) (px py st ch:Int) (u:Nat) (s:List UInt8) (p:Nat) (hpx:I64 px) (hpy:I64 py) (hs:s.length≤100000) (hch:0≤ch∧ch≤3) (hu:p+u≤8*s.length)
  (rb:ACalls (cxg gl) 132 [S (aC s),I p,B b] [] (fun r H=>r = .aX [.d (zX st false 3),I ch,I ((p+u:Nat):Int),I 0]∧H=[])) :
  ACalls (cxg gl) 62 [S (aC s),I p,B b, .d (.agg [In px,In py])] []
  (fun r H=>r = .aX [.d (fw (jN px py (af s p) ⟨st,false,3,ch,0,u⟩).1),I ((p+(jN px py (af s p) ⟨st,false,3,ch,0,u⟩).2.2:Nat):Int),I (jN px py (af s p) ⟨st,false,3,ch,0,u⟩).2.1]∧H=[]):=by
 have e00:bB []=[]:=by unfold Tc.bB;rfl
 have hI:aI 3=true:=rfl
 have hS:cW 3=false:=rfl
 have ri:=ja (gl:=gl) 3
 rw[hI]at ri
 have w1:=ia (gl:=gl) px hpx
 have w2:=ia (gl:=gl) py hpy
 have wb1:=fU px
 have wb2:=fU py
 have ww:=fun n h=>ia (gl:=gl) n h
 have hBl:=bz s
 have bl:=fun c q hq=>nH (gl:=gl) s q true c hs hq
 have ble:=fun c q hq=>qZ true c s q hq
 unfold jN
 simp only[ne_eq,not_true_eq_false,if_false,Bool.false_eq_true,bw,hI]
 obtain⟨M,hM⟩:∃M,M=mdX 3 px py (af s (p+u)):=⟨_,rfl⟩
 rw[←hM]
 unfold mdX mdM at hM
 simp only[bw,hI,hS,if_true,Bool.false_eq_true,if_false]at hM
 have cb:=wX (gl:=gl) true s (p+u) hs hu
 have cl:=oK true (af s (p+u))
 have cp:=qm true (af s (p+u))
 rw[hBl]at cl
 generalize cbN true (af s (p+u))=x at *
 obtain⟨pat,ce,cu⟩:=x
 simp only at cb cl cp hM
 by_cases hce:ce=0
 ·subst hce
  simp only[ne_eq,not_true_eq_false,if_false]at hM
  subst hM
  simp only[not_true_eq_false,if_false]
  generalize hY:bdX true (cds (4*pat+ch)) (af s (p+u)) (cu)=Y
  unfold cds at hY
  refine ACalls.en Tryz.func62 Tryz.ntmps62 ?_
  repeat' (first|(apply aa.bE [0,1,2,3,4,5,6,7,8,9,10,11,12,13,14,15,16,17,18,19] 20 20;rfl)|(apply av.aK;rfl;(apply aA.q true;rfl;rfl;first|exact True.intro|omega);exact fun _ _ _ h=>h;(iterate 6 rfl);kernel_rfl;kernel_rfl)|refine av.bD ?_|(apply av.go)|refine ai.bg ?_|(apply ai.aK;rfl;(apply aA.q true;rfl;rfl;first|exact True.intro|omega);exact fun _ _ _ h=>h;(iterate 6 rfl);kernel_rfl;kernel_rfl)|refine ai.aj (rb) ?_|refine ai.aj (ri) ?_|refine ai.aj (cb) ?_|(exact aa.bP)|refine aa.bN true ?_|refine aa.ae (rb) ?_|refine aa.ae (ri) ?_|refine aa.ae (cb) ?_|intro _|refine aa.aR ?_)
  apply aa.bO
  repeat' (first|(apply aa.bE [0,1,2,3,4,5,6,7,8,9,10,11,12,13,14,15,16,17,18,19] 20 20;rfl)|(apply av.aK;rfl;(apply aA.q true;rfl;rfl;first|exact True.intro|omega);exact fun _ _ _ h=>h;(iterate 6 rfl);kernel_rfl;kernel_rfl)|refine av.bD ?_|(apply av.go)|refine ai.bg ?_|(apply ai.aK;rfl;(apply aA.q true;rfl;rfl;first|exact True.intro|omega);exact fun _ _ _ h=>h;(iterate 6 rfl);kernel_rfl;kernel_rfl)|refine ai.aj (rb) ?_|refine ai.aj (ri) ?_|refine ai.aj (cb) ?_|(exact aa.bP)|refine aa.bN true ?_|refine aa.ae (rb) ?_|refine aa.ae (ri) ?_|refine aa.ae (cb) ?_|intro _|refine aa.aR ?_)
  refine aa.weak (env':=[(24,I 0),(23,I 32),(15,I (4*pat+ch)),(13,I ((p+u+cu:Nat):Int)),(11, .ptr 2 0),(8, .ptr 1 0),(1,I p),(0,S (aC s))]) ⟨rfl,rfl,rfl,rfl,rfl,rfl,rfl,rfl,trivial⟩ ?_
  refine aa.loop (fun m env H=>∃(i:Nat) (j y:Int) (q:Nat) (L:List (Int×List Ev)),j=i∧y=32 / 2^i∧m=6 - i∧i≤6∧p+u+cu+q≤8*s.length∧L.length=i∧bdA L (bdX true (List.drop i [aL (4*pat+ch) 0,aL (4*pat+ch) 1,aL (4*pat+ch) 2,aL (4*pat+ch) 3,aL (4*pat+ch) 4,aL (4*pat+ch) 5]) (af s (p+u)) (cu+q))=Y∧env=[(24,I j),(23,I y),(15,I (4*pat+ch)),(13,I ((p+u+cu+q:Nat):Int)),(11, .ptr 2 0),(8, .ptr 1 0),(1,I p),(0,S (aC s))]∧H=[.cells [I px,I py], .cells (vk 0 false 0), .cells (uO st 3 0 0 0 L)]) 6
   ⟨0,0,32,0,[],rfl,rfl,rfl,by omega,by omega,rfl,hY,rfl,rfl⟩ ?_
  rintro m env H ⟨i,j,y,q,L,hj,hy,rfl,hi,hq,hL,hY,rfl,rfl⟩
  rcases Nat.lt_or_ge i 6 with hi6|hi6
  ·obtain⟨f,rfl⟩:=xj L hL
   have hdr:List.drop i [aL (4*pat+ch) 0,aL (4*pat+ch) 1,aL (4*pat+ch) 2,aL (4*pat+ch) 3,aL (4*pat+ch) 4,aL (4*pat+ch) 5]=aL (4*pat+ch) i::List.drop (i+1) [aL (4*pat+ch) 0,aL (4*pat+ch) 1,aL (4*pat+ch) 2,aL (4*pat+ch) 3,aL (4*pat+ch) 4,aL (4*pat+ch) 5]:=by
    rcases (show i=0∨i=1∨i=2∨i=3∨i=4∨i=5 by omega)with rfl|rfl|rfl|rfl|rfl|rfl<;>rfl
   have bb:=bl (aL (4*pat+ch) i) (p+u+cu+q) hq
   have gg:=ble (aL (4*pat+ch) i) (p+u+cu+q) hq
   have oo:=@kS true (aL (4*pat+ch) i) (List.drop (i+1) [aL (4*pat+ch) 0,aL (4*pat+ch) 1,aL (4*pat+ch) 2,aL (4*pat+ch) 3,aL (4*pat+ch) 4,aL (4*pat+ch) 5]) s (p+u) (cu+q)
   have xx:=@jo true (aL (4*pat+ch) i) (List.drop (i+1) [aL (4*pat+ch) 0,aL (4*pat+ch) 1,aL (4*pat+ch) 2,aL (4*pat+ch) 3,aL (4*pat+ch) 4,aL (4*pat+ch) 5]) s (p+u) (cu+q)
   rw[show p+u+(cu+q)=p+u+cu+q by omega]at oo xx
   rw[hdr]at hY
   generalize blX true (aL (4*pat+ch) i) (af s (p+u+cu+q))=z at *
   obtain⟨d,l,er,uu⟩:=z
   simp only at bb gg oo xx
   rw[C9 (4*pat+ch) i y (by rw[hy];exact Ch i hi6)]at bb
   obtain⟨i',hi'⟩:∃i',i'=i:=⟨i,rfl⟩
   by_cases h:er=0
   ·subst h
    rw[oo rfl]at hY
    rw[Nat.add_assoc (p+u+cu)]at bb
    rcases (show i=0∨i=1∨i=2∨i=3∨i=4∨i=5 by omega)with hc|hc|hc|hc|hc|hc
    all_goals
     first
      |(obtain rfl:i=0:=hc;obtain rfl:j=0:=hj;obtain rfl:y=32:=hy)
      |(obtain rfl:i=1:=hc;obtain rfl:j=1:=hj;obtain rfl:y=16:=hy)
      |(obtain rfl:i=2:=hc;obtain rfl:j=2:=hj;obtain rfl:y=8:=hy)
      |(obtain rfl:i=3:=hc;obtain rfl:j=3:=hj;obtain rfl:y=4:=hy)
      |(obtain rfl:i=4:=hc;obtain rfl:j=4:=hj;obtain rfl:y=2:=hy)
      |(obtain rfl:i=5:=hc;obtain rfl:j=5:=hj;obtain rfl:y=1:=hy)
     repeat' (first|(apply aa.bE [0,1,2,3,4,5,6,7,8,9,10,11,12,13,14,15,16,17,18,19] 20 20;rfl)|(apply av.aK;rfl;(apply aA.q true;rfl;rfl;first|exact True.intro|omega);exact fun _ _ _ h=>h;(iterate 6 rfl);kernel_rfl;kernel_rfl)|refine av.bD ?_|(apply av.go)|refine ai.bg ?_|(apply ai.aK;rfl;(apply aA.q true;rfl;rfl;first|exact True.intro|omega);exact fun _ _ _ h=>h;(iterate 6 rfl);kernel_rfl;kernel_rfl)|refine ai.aj (ri) ?_|refine ai.aj (bb) ?_|(exact aa.bP)|refine aa.bN true ?_|refine aa.ae (ri) ?_|refine aa.ae (bb) ?_|intro _|refine aa.aR ?_)
     all_goals first
      |exact aa.round [(24,I ((i':Int)+1)),(23,I (32 / 2^(i'+1))),(15,I (4*pat+ch)),(13,I ((p+u+cu+(q+uu):Nat):Int)),(11, .ptr 2 0),(8, .ptr 1 0),(1,I p),(0,S (aC s))] (6 - (i'+1)) (by omega) (by subst hi';exact⟨rfl,rfl,rfl,rfl,rfl,rfl,rfl,rfl,trivial⟩)
        ⟨i'+1,(i':Int)+1,32 / 2^(i'+1),q+uu,(List.range i').map f++[(d,l)],rfl,rfl,rfl,by omega,by omega,by simp,by subst hi';rw[←hY,←Nat.add_assoc];rfl,rfl,by subst hi';rfl⟩
      |omega
   ·have hY2:Y=((List.range i).map f,er,cu+q):=by rw[←hY,xx h];simp[bdA]
    subst hY2
    rw[if_pos h]
    simp only[Nat.add_zero]
    rcases (show i=0∨i=1∨i=2∨i=3∨i=4∨i=5 by omega)with hc|hc|hc|hc|hc|hc
    all_goals
     first
      |(obtain rfl:i=0:=hc;obtain rfl:j=0:=hj;obtain rfl:y=32:=hy)
      |(obtain rfl:i=1:=hc;obtain rfl:j=1:=hj;obtain rfl:y=16:=hy)
      |(obtain rfl:i=2:=hc;obtain rfl:j=2:=hj;obtain rfl:y=8:=hy)
      |(obtain rfl:i=3:=hc;obtain rfl:j=3:=hj;obtain rfl:y=4:=hy)
      |(obtain rfl:i=4:=hc;obtain rfl:j=4:=hj;obtain rfl:y=2:=hy)
      |(obtain rfl:i=5:=hc;obtain rfl:j=5:=hj;obtain rfl:y=1:=hy)
     repeat' (first|(apply aa.bE [0,1,2,3,4,5,6,7,8,9,10,11,12,13,14,15,16,17,18,19] 20 20;rfl)|(apply av.aK;rfl;(apply aA.q true;rfl;rfl;first|exact True.intro|omega);exact fun _ _ _ h=>h;(iterate 6 rfl);kernel_rfl;kernel_rfl)|refine av.bD ?_|(apply av.go)|refine ai.bg ?_|(apply ai.aK;rfl;(apply aA.q true;rfl;rfl;first|exact True.intro|omega);exact fun _ _ _ h=>h;(iterate 6 rfl);kernel_rfl;kernel_rfl)|refine ai.aj (ri) ?_|refine ai.aj (bb) ?_|(exact aa.bP)|refine aa.bN true ?_|refine aa.ae (ri) ?_|refine aa.ae (bb) ?_|(apply aa.jZ (.aX [.d (fw kC),I p,I er]);rfl;exact aD.aX ⟨aD.d (bM 0 false),aD.refl _,aD.refl _,trivial⟩;rfl;rfl;rfl)|intro _|refine aa.aR ?_)
     all_goals first|exact⟨rfl,rfl⟩|omega
  ·obtain rfl:i=6:=by omega
   obtain rfl:j=6:=hj
   match L,hL with
   |[t0,t1,t2,t3,t4,t5],_ =>
    have hY6:Y=([t0,t1,t2,t3,t4,t5],0,cu+q):=by rw[←hY];rfl
    subst hY6
    simp only[not_true_eq_false,if_false]
    simp only[←Nat.add_assoc]
    repeat' (first|intro _|refine aa.aR ?_)
    all_goals first|exact⟨rfl,rfl⟩|omega
 ·rw[if_pos hce]at hM
  subst hM
  rw[if_pos hce]
  simp only[Nat.add_zero]
  refine ACalls.en Tryz.func62 Tryz.ntmps62 ?_
  repeat' (first|(apply aa.bE [0,1,2,3,4,5,6,7,8,9,10,11,12,13,14,15,16,17,18,19] 20 20;rfl)|(apply av.aK;rfl;(apply aA.q true;rfl;rfl;first|exact True.intro|omega);exact fun _ _ _ h=>h;(iterate 6 rfl);kernel_rfl;kernel_rfl)|refine av.bD ?_|(apply av.go)|refine ai.bg ?_|(apply ai.aK;rfl;(apply aA.q true;rfl;rfl;first|exact True.intro|omega);exact fun _ _ _ h=>h;(iterate 6 rfl);kernel_rfl;kernel_rfl)|refine ai.aj (rb) ?_|refine ai.aj (ri) ?_|refine ai.aj (cb) ?_|(exact aa.bP)|refine aa.bN true ?_|refine aa.ae (rb) ?_|refine aa.ae (ri) ?_|refine aa.ae (cb) ?_|(apply aa.fK (.aX [.d (fw kC),I p,I ce]);rfl;exact aD.aX ⟨aD.d (bM 0 false),aD.refl _,aD.refl _,trivial⟩;rfl;rfl;rfl)|apply aa.bO|intro _|refine aa.aR ?_)
  all_goals first|exact⟨rfl,rfl⟩|omega
end Ci
end Go.Proofs.YtbpednchkndocaaGreatDoor.Av
