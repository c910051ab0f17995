/- Cells are read: the document's head. Cells are read: the bits of a cell's pattern, as the document asks them. -/
import Derived.Test.YtbpednchkndocaaGreatDoorPq6
import Derived.Test.YtbpednchkndocaaGreatDoorSr0
import Derived.Test.YtbpednchkndocaaGreatDoorSr4
set_option linter.unusedVariables false
set_option linter.unusedSimpArgs false
set_option maxRecDepth 100000
set_option maxHeartbeats 64000000
namespace Go.Proofs.YtbpednchkndocaaGreatDoor.Av
namespace Ci
open Go Bt Tc Co Bl
attribute [local irreducible] aa ACalls aW aK bP aT
variable {gl:List (Nat×List D)}
abbrev QI(st:Int)(sk:Bool)(ki:Int):D := .agg [In st, .bool sk,In ki,In 0,In 0,In 0,In 0,In 0,In 0,In 0,In 0,In 0, .aU, .aU, .aU, .aU, .aU, .aU]
def hdT(p:Nat)(h:HdR):AV:=if h.err=0 then .cH [.d (QI h.stuff h.skip h.kind),I h.chr,I ((p+h.used:Nat):Int),I 0] else .cH [.d (QI 0 false 0),I 0,I 0,I h.err]
theorem FX{p:Nat}{h:HdR}(he:h.err≠0):hdT p h = .cH [.d (QI 0 false 0),I 0,I 0,I h.err]:=if_neg he
attribute [local irreducible] mbN aG fq hdX jw
end Ci
namespace Ci
open Go Bt Tc Co Bl
end Ci
namespace Sr
open Go Bt Tc Co Sh
def SxI(x:Sx):Prop:=StI x.h x.rs x.z
theorem DT(f:Nat){d:D}(h:[d]=[.aU]∨∃es,[d]=[.sl 8 es]∧es.length≤9223372036854775807∧∀x∈es,TyE (f+9) 30 x):∃l,bW d (.sl 8 (dS l))∧Big l.length∧∀x∈l,SxI x:=by
 rcases h with h|⟨es,h1,h2,h3⟩
 ·obtain rfl:d = .aU:=by simpa using h
  exact⟨[],bW.aU 8,by unfold Big;decide,by simp⟩
 ·obtain rfl:d = .sl 8 es:=by simpa using h1
  obtain⟨l,g1,g2,g3⟩:=tG (R:=fun x c=>CW x (sxD c)) (I:=SxI) (fun x hx=>by
   obtain⟨hd,rs,z,_,w,st⟩:=uu f x hx
   exact⟨⟨hd,rs,z⟩,w,st⟩) es h3
  refine⟨l,bW.sl (by rw[ju];exact g1) (fun i e c he hc=>?_),by unfold Big;omega,g3⟩;have hi:i<l.length:=by have:=aI he;omega
  have:(dS l)[i]?=some (sxD l[i]):=by simp[dS,hi]
  rw[this]at hc;cases hc;exact g2 i e _ he (List.getElem?_eq_getElem hi)
theorem GV(f:Nat)(x:D)(h:TyE (f+11) 73 x):∃(l:List Sx) (e:Bool),(∃l,x = .agg l)∧CW x (stD l e)∧Big l.length∧∀x∈l,SxI x:=by
 obtain⟨hc,ha⟩:=h;obtain⟨l,rfl⟩:=ha rfl;change l.length=2∧∀o t',(o,t')∈[((0:Nat),(71:Nat)),(1,4)]→TyC tys (f+10) t' ((l.drop o).take (szT tys t'))at hc;obtain⟨hl,hf⟩:=hc;have h0:=hf 0 71 (by simp);have h1:=hf 1 4 (by simp);clear hf
 match l,hl with
 |[a,b],_ =>
  obtain⟨ss,w,q1,q2⟩:=DT f h0;obtain⟨e,rfl⟩:=ug h1;refine⟨ss,e,⟨_,rfl⟩,⟨rfl,by simp[stD,D.cells,D.one],fun i c d hc hd=>?_⟩,q1,q2⟩
  match i,hc,hd with
  |0,hc,hd=>cases hc;cases hd;exact w
  |1,hc,hd=>cases hc;cases hd;exact bW.refl _
  |i+2,hc,hd=>simp[stD,D.cells]at hc
def dx(l:List Sx):Nat:=(l.map fun x=>4+(cellsOf x.rs).length).sum
theorem En{l:List Sx}{i:Nat}{x:Sx}(h:l[i]?=some x):dx (l.take (i+1))=dx (l.take i)+(4+(cellsOf x.rs).length):=by
 unfold dx;rw[List.take_add_one,h,List.map_append,List.sum_append];simp
def xm(x:Sx):Bool:=gN x.h x.rs&&decide (x.z≤300000)
def kO(l:List Sx):Bool:=decide (l.length≤70)&&l.all xm&&decide (dx l≤600)
theorem GL{l:List Sx}{k:Nat}{r:Sx}(h:l[k]?=some r):(l.take (k+1)).all xm=((l.take k).all xm&&xm r):=by
 rw[List.take_add_one,h,List.all_append];simp
end Sr
namespace Sr
open Go Bt Sh Co Ci Tc Si
attribute [local irreducible] aa ACalls aW aK bP aT cK cF cG
variable {gl:List (Nat×List D)}
structure Lt(x:Sx):Prop where
 ok:jX x.rs
 s:x.h.supp.length≤100
 f:I64 x.h.fmt
theorem QF{l:List Sx}{i:Nat}{x:Sx}(h:l[i]?=some x):ckT l (l.length-i)=if dE x.h x.rs x.z≠0 then dE x.h x.rs x.z else if nY (l.take i) x.h=true then ckT l (l.length-(i+1)) else 11:=by
 have hi:=aI h;have e:l.length-i=(l.length-(i+1))+1:=by omega
 rw[e,ckT,show l.length-(l.length-(i+1)+1)=i by omega,h]
attribute [local irreducible] Tc.bS suD bD rsD dS dE nY
theorem ut(l:List Sx)(e:Bool)(hl:l.length≤1000000)(hL:∀x∈l,Lt x):ACalls (cxg gB) 53 [.d (stD l e)] [] (fun r H=>r=I (ckS l)∧H=[]):=by
 have hn:=ju l;unfold ckS;by_cases h0:l.length<1∨64<l.length
 ·rw[if_pos h0];refine ACalls.en Tryz.func53 Tryz.ntmps53 ?_;repeat' (first|refine aa.aF ?_|refine aa.q'd true ?_|refine aa.ah ?_|refine aa.ae ?_|refine aa.aB ?_|refine aa.ak ?_|refine aa.aH ?_|refine aa.aM ?_|refine aa.aD ?_|refine aa.au ?_|refine aa.bg ?_|refine aa.aQ ?_|refine aa.aC ?_|intro _|(apply aa.gD;rfl;rfl;rfl)|refine aa.aA ?_|refine aa.aP ?_|refine aa.aJ ?_)
  all_goals exact Tn
 ·rw[if_neg h0];obtain⟨Z,hZ⟩:∃Z,Z=ckT l l.length:=⟨_,rfl⟩;rw[←hZ];refine ACalls.en Tryz.func53 Tryz.ntmps53 ?_;repeat' (first|refine aa.aF ?_|refine aa.q'd true ?_|refine aa.ah ?_|refine aa.ae ?_|refine aa.aB ?_|refine aa.ak ?_|refine aa.aH ?_|refine aa.aM ?_|refine aa.aD ?_|refine aa.au ?_|refine aa.bg ?_|refine aa.aQ ?_|refine aa.aC ?_|intro _|(apply aa.gD;rfl;rfl;rfl)|refine aa.aA ?_|refine aa.aP ?_|refine aa.aJ ?_)
  all_goals first|omega|skip
  refine aa.weak (env':=[(19,I ((0:Nat):Int)),(18,I ((dS l).length:Int)),(17, .d (.sl 8 (dS l))),(1, .ptr 0 0)]) ⟨rfl,rfl,rfl,rfl,trivial⟩ ?_;refine aa.loop (fun m env H=>∃i:Nat,m=l.length-i∧i≤l.length∧Z=ckT l (l.length-i)∧env=[(19,I (i:Int)),(18,I ((dS l).length:Int)),(17, .d (.sl 8 (dS l))),(1, .ptr 0 0)]∧H=[.cells [.d (.sl 8 (dS l)),B e]]) l.length
   ⟨0,rfl,by omega,hZ,rfl,rfl⟩ ?_
  rintro m env H ⟨i,rfl,hi,hz,rfl,rfl⟩;rcases Nat.lt_or_ge i l.length with hlt|hge
  ·obtain⟨x,hx⟩:∃x,l[i]?=some x:=⟨_,List.getElem?_eq_getElem hlt⟩;have g1:=nI hx;have lt:=hL x (List.mem_of_getElem? hx);rw[QF hx]at hz;have fo:=zg (gl:=gB) (l.take i) x.h (rsD x.rs) x.z (by rw[List.length_take];omega);rw[←GU]at fo;have ck:=(tY x.h x.rs x.z lt.ok lt.s).more FY;obtain⟨⟨a,b,c,d,e',f⟩,rs,z⟩:=x;simp only at ck fo hz;by_cases hc:dE ⟨a,b,c,d,e',f⟩ rs z=0
   ·rw[hc,if_neg (by decide)]at hz;rw[hc]at ck;cases hF:nY (l.take i) ⟨a,b,c,d,e',f⟩with
    | true =>
     rw[hF]at fo hz;rw[if_pos rfl]at hz;repeat' (first|refine aa.aF ?_|(apply aa.fw [0,1,2,3,4,5,6] 7 7;rfl)|(apply aW.jA;rfl;(apply eZ.q true;rfl;rfl;first|exact True.intro|omega|(rw[hn];omega));exact fun _ _ _ h=>h;(iterate 6 rfl);kernel_rfl;kernel_rfl)|(apply aW.load;rfl;rfl;(first|exact True.intro|omega|(rw[hn];omega));exact fun _ _ _ h=>h;(iterate 6 rfl);kernel_rfl;kernel_rfl)|(apply aW.go)|refine aK.cL ?_|(apply aK.jA;rfl;(apply eZ.q true;rfl;rfl;first|exact True.intro|omega|(rw[hn];omega));exact fun _ _ _ h=>h;(iterate 6 rfl);kernel_rfl;kernel_rfl)|refine aK.bO (ck) ?_|refine aK.bO (fo) ?_|(exact aa.fg)|refine aa.o9 ?_|refine aa.q'd true ?_|refine aa.av (ck) ?_|refine aa.av (fo) ?_|refine aa.ah ?_|refine aa.ae ?_|refine aa.aB ?_|refine aa.ak ?_|refine aa.aH ?_|refine aa.aM ?_|refine aa.aD ?_|refine aa.au ?_|refine aa.bg ?_|refine aa.aQ ?_|refine aa.aC ?_|intro _|(apply aa.gD;rfl;rfl;rfl)|refine aa.aA ?_|refine aa.aP ?_|refine aa.aJ ?_)
     all_goals first
      |exact aa.jr 1 [(19,I ((i+1:Nat):Int)),(18,I ((dS l).length:Int)),(17, .d (.sl 8 (dS l))),(1, .ptr 0 0)] (l.length-(i+1)) (by omega) rfl rfl rfl rfl ⟨rfl,rfl,rfl,rfl,trivial⟩ ⟨i+1,rfl,hlt,hz,rfl,rfl⟩
      |omega
    |false =>
     rw[hF]at fo hz;rw[if_neg (by decide)]at hz;rw[hz];repeat' (first|refine aa.aF ?_|(apply aa.fw [0,1,2,3,4,5,6] 7 7;rfl)|(apply aW.jA;rfl;(apply eZ.q true;rfl;rfl;first|exact True.intro|omega|(rw[hn];omega));exact fun _ _ _ h=>h;(iterate 6 rfl);kernel_rfl;kernel_rfl)|(apply aW.load;rfl;rfl;(first|exact True.intro|omega|(rw[hn];omega));exact fun _ _ _ h=>h;(iterate 6 rfl);kernel_rfl;kernel_rfl)|(apply aW.go)|refine aK.cL ?_|(apply aK.jA;rfl;(apply eZ.q true;rfl;rfl;first|exact True.intro|omega|(rw[hn];omega));exact fun _ _ _ h=>h;(iterate 6 rfl);kernel_rfl;kernel_rfl)|refine aK.bO (ck) ?_|refine aK.bO (fo) ?_|(exact aa.fg)|refine aa.o9 ?_|refine aa.q'd true ?_|refine aa.av (ck) ?_|refine aa.av (fo) ?_|refine aa.ah ?_|refine aa.ae ?_|refine aa.aB ?_|refine aa.ak ?_|refine aa.aH ?_|refine aa.aM ?_|refine aa.aD ?_|refine aa.au ?_|refine aa.bg ?_|refine aa.aQ ?_|refine aa.aC ?_|intro _|(apply aa.gD;rfl;rfl;rfl)|refine aa.aA ?_|refine aa.aP ?_|refine aa.aJ ?_)
     all_goals exact Tn
   ·rw[if_pos hc]at hz;rw[hz];repeat' (first|refine aa.aF ?_|(apply aa.fw [0,1,2,3,4,5,6] 7 7;rfl)|(apply aW.jA;rfl;(apply eZ.q true;rfl;rfl;first|exact True.intro|omega|(rw[hn];omega));exact fun _ _ _ h=>h;(iterate 6 rfl);kernel_rfl;kernel_rfl)|(apply aW.load;rfl;rfl;(first|exact True.intro|omega|(rw[hn];omega));exact fun _ _ _ h=>h;(iterate 6 rfl);kernel_rfl;kernel_rfl)|(apply aW.go)|refine aK.cL ?_|(apply aK.jA;rfl;(apply eZ.q true;rfl;rfl;first|exact True.intro|omega|(rw[hn];omega));exact fun _ _ _ h=>h;(iterate 6 rfl);kernel_rfl;kernel_rfl)|refine aK.bO (ck) ?_|(exact aa.fg)|refine aa.o9 ?_|refine aa.q'd true ?_|refine aa.av (ck) ?_|refine aa.ah ?_|refine aa.ae ?_|refine aa.aB ?_|refine aa.ak ?_|refine aa.aH ?_|refine aa.aM ?_|refine aa.aD ?_|refine aa.au ?_|refine aa.bg ?_|refine aa.aQ ?_|refine aa.aC ?_|intro _|(apply aa.gD;rfl;rfl;rfl)|refine aa.aA ?_|refine aa.aP ?_|refine aa.aJ ?_)
    all_goals exact Tn
  ·obtain rfl:i=l.length:=by omega
   rw[Nat.sub_self]at hz;change Z=0 at hz;rw[hz];repeat' (first|refine aa.aF ?_|refine aa.q'd true ?_|refine aa.ah ?_|refine aa.ae ?_|refine aa.aB ?_|refine aa.ak ?_|refine aa.aH ?_|refine aa.aM ?_|refine aa.aD ?_|refine aa.au ?_|refine aa.bg ?_|refine aa.aQ ?_|refine aa.aC ?_|intro _|(apply aa.gD;rfl;rfl;rfl)|refine aa.aA ?_|refine aa.aP ?_|refine aa.aJ ?_)
   all_goals exact Tn
end Sr
end Go.Proofs.YtbpednchkndocaaGreatDoor.Av
