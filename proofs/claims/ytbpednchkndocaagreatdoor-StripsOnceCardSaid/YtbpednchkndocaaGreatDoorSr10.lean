/- Strips: the chapter's examples; what sheets of strips bring with them. -/
import Derived.Test.YtbpednchkndocaaGreatDoorSr7
set_option linter.unusedVariables false
set_option linter.unusedSimpArgs false
set_option maxRecDepth 100000
set_option maxHeartbeats 64000000
namespace Go.Proofs.YtbpednchkndocaaGreatDoor.Av
namespace Sr
open Go Bt Sh Co Ci Tc Si Wr
attribute [local irreducible] aa ACalls aW aK bP aT cK cF cG
def Lh:Cel:=⟨0,false,3,0,0,0,9,9,9,9,9,9,[],[],[],[],[],[]⟩
def rwK:Rw:=⟨false,0,0,[Lh,Lh]⟩
def hdK:Hd:=⟨0,0,6,false,5,[]⟩
def sxK:Sx:=⟨hdK,[rwK,rwK],0⟩
abbrev Lg:D := .agg [In 0, .bool false,In 3,In 0,In 0,In 0,In 9,In 9,In 9,In 9,In 9,In 9, .aU, .aU, .aU, .aU, .aU, .aU]
abbrev Pt:D := .agg [.bool false,In 0,In 0, .sl 18 [Lg,Lg]]
abbrev Rf:D := .agg [In 0,In 0,In 6, .bool false,In 5, .aU, .sl 4 [Pt,Pt],In 0]
abbrev Mi:D := .agg [.sl 8 [Rf], .bool true]
theorem QL:CW Lg (kU Lh):=⟨rfl,by simp[D.cells,D.one],fun i c d hc hd=>by
 have hn:bW .aU (evS []):=bW.aU 3
 match i,hc,hd with
 |0,hc,hd|1,hc,hd|2,hc,hd|3,hc,hd|4,hc,hd|5,hc,hd|6,hc,hd|7,hc,hd|8,hc,hd|9,hc,hd|10,hc,hd|11,hc,hd=>cases hc;cases hd;exact bW.refl _
 |12,hc,hd|13,hc,hd|14,hc,hd|15,hc,hd|16,hc,hd|17,hc,hd=>cases hc;cases hd;exact hn
 |i+18,hc,hd=>simp[D.cells]at hc⟩
theorem Ro:CW Pt (rwD rwK):=⟨rfl,by simp[D.cells,D.one],fun i c d hc hd=>by
 match i,hc,hd with
 |0,hc,hd|1,hc,hd|2,hc,hd=>cases hc;cases hd;exact bW.refl _
 |3,hc,hd =>
  cases hc;cases hd;refine bW.sl rfl fun j e f he hf=>?_
  match j,he,hf with
  |0,he,hf|1,he,hf=>cases he;cases hf;exact QL
  |j+2,he,hf=>simp at he
 |i+4,hc,hd=>simp[D.cells]at hc⟩
theorem Re:CW Rf (sxD sxK):=⟨rfl,by simp[D.cells,D.one],fun i c d hc hd=>by
 match i,hc,hd with
 |0,hc,hd|1,hc,hd|2,hc,hd|3,hc,hd|4,hc,hd|7,hc,hd=>cases hc;cases hd;exact bW.refl _
 |5,hc,hd=>cases hc;cases hd;exact bW.aU 1
 |6,hc,hd =>
  cases hc;cases hd;refine bW.sl rfl fun j e f he hf=>?_
  match j,he,hf with
  |0,he,hf|1,he,hf=>cases he;cases hf;exact Ro
  |j+2,he,hf=>simp at he
 |i+8,hc,hd=>simp[D.cells]at hc⟩
theorem Q8:bW Mi (stD [sxK] true):=CW.zo ⟨rfl,by simp[D.cells,D.one],fun i c d hc hd=>by
 match i,hc,hd with
 |0,hc,hd =>
  cases hc;cases hd;refine bW.sl rfl fun j e f he hf=>?_
  match j,he,hf with
  |0,he,hf=>cases he;cases hf;exact Re
  |j+1,he,hf=>simp at he
 |1,hc,hd=>cases hc;cases hd;exact bW.refl _
 |i+2,hc,hd=>simp[D.cells]at hc⟩
theorem Oa:kG Lh:=by
 have h:qy []:=⟨by decide,by simp⟩;exact⟨gY,gY,gY,h,h,h,h,h,h⟩
theorem Ph:∀x∈[sxK],Lt x:=fun x hx=>by
 obtain rfl:=List.mem_singleton.1 hx;refine⟨⟨by decide,fun r hr=>?_⟩,by decide,by unfold I64;decide⟩;have:r=rwK:=by simpa[sxK]using hr
 subst this;exact⟨by decide,fun c hc=>by
  have:c=Lh:=by simpa[rwK]using hc
  subst this;exact Oa⟩
theorem DJ:ckS [sxK]=0:=by decide +kernel
theorem Pi:∀x∈[sxK],Gd x:=(wh DJ).2.1
theorem IG:∀x∈[sxK],Ft x:=fun x hx=>by
 have:=Pi x hx;obtain rfl:=List.mem_singleton.1 hx;exact Ga this (by decide)
theorem E0:(fO [sxK] true).length≤2000:=by decide +kernel
theorem Pg:wrT [sxK] true=(bJ (fO [sxK] true),0):=by
 unfold wrT;rw[if_neg (by rw[DJ];decide),if_neg (by have:=E0;omega)]
theorem PL:prS []=⟨[],false,0,2⟩:=by
 unfold prS;rw[prX];rfl
theorem H6{gl:List (Nat×List D)}:ACalls (cxg gl) 114 [] [] (fun r H=>r = .d Mi∧H=[]):=by
 refine ACalls.en Tryz.func114 Tryz.ntmps114 ?_;repeat' (first|refine aa.aF ?_|refine aa.bh true ?_|refine aa.aH ?_|refine aa.aD ?_|refine aa.bG ?_|refine aa.aX ?_|intro _|refine aa.aA ?_)
 all_goals exact Tp
theorem MO:ACalls (cxg gB) 46 [S []] [] (fun r H=>r = .cH [.d (stD [] false),I 0,I 2]∧H=[]):=by
 have:=vN [] (by decide);rw[PL]at this;exact this
theorem RF:ACalls (cxg gB) 46 [S (bJ (fO [sxK] true))] [] (fun r H=>r = .cH [.d (stD [sxK] true),I 0,I 0]∧H=[]):=by
 have:=vN (bJ (fO [sxK] true)) (by rw[dY];have:=E0;omega);rw[BI DJ (fun x hx=>(IG x hx).d)]at this;exact this
theorem SR:ACalls (cxg gB) 50 [.d Mi] [] (fun r H=>r = .cH [S (bJ (fO [sxK] true)),I 0]∧H=[]):=by
 have:=(uq [sxK] true (by decide) Ph IG).weak (args:=[.d Mi]) ⟨cJ.d Q8,trivial⟩;rw[Pg]at this;exact this
theorem Pf:(dS [sxK]).length=1:=rfl
attribute [local irreducible] Tc.bS suD bD rsD dS fO bJ
theorem yV:ACalls (cxg gB) 45 [] [] (fun r H=>r=B true∧H=[]):=by
 have p0:=MO;have pk:=RF;have wk:=SR;have bl:=H6 (gl:=gB);have h1:=Pf;generalize bJ (fO [sxK] true)=T at *;refine ACalls.en Tryz.func45 Tryz.ntmps45 ?_;repeat' (first|refine aa.aF ?_|refine aa.bh true ?_|refine aa.av (p0) ?_|refine aa.av (bl) ?_|refine aa.av (wk) ?_|refine aa.av (pk) ?_|refine aa.aH ?_|refine aa.aD ?_|refine aa.au ?_|refine aa.cf ?_|intro _|refine aa.aA ?_)
 all_goals exact Tn
theorem MG(s:List UInt8):Rd1 s [] 0:=⟨by simp,fun i x h=>by simp at h,by decide,by rw[LO];rfl,by omega,rfl⟩
theorem JA{l:List Sx}(hl:l.length≤1000000)(h:∀x∈l,Gd x∧∀r∈x.rs,∀c∈r.cells,kG c):uT l∧∀x∈l,Lt x:=by
 have hx:∀x∈l,jX x.rs∧x.h.supp.length≤100:=fun x hx=>⟨Pq (h x hx).1.f (h x hx).2,by have:=Qc (h x hx).1.f;omega⟩
 refine⟨⟨hl,fun x hm=>⟨(hx x hm).2,?_,fun r hr=>⟨?_,fun c hc=>?_⟩⟩⟩,fun x hm=>⟨(hx x hm).1,(hx x hm).2,?_⟩⟩
 ·have:=(hx x hm).1.few;omega
 ·have:=((hx x hm).1.cells r hr).1;omega
 ·have k:=(h x hm).2 r hr c hc;have h0:=k.e0.1;have h1:=k.e1.1;have h2:=k.e2.1;have h3:=k.e3.1;have h4:=k.e4.1;have h5:=k.e5.1;unfold Cs.uU;omega
 ·have:=qj (lW (h x hm).1.f).1;unfold I64;omega
theorem OM{s:List UInt8}:∀(n:Nat) (l:List Sx) (p:Nat),l.length≤64→(prX s n l p).l.length≤64
 |0,l,p,_=>by rw[prX];simp
 | n + 1, l, p, h => by
  rw[prX];split
  ·split
   ·simp
   ·exact h
  ·split
   ·unfold prE;split
    ·exact h
    ·simp
   ·unfold prN;split
    ·simp
    ·split
     ·simp
     ·split
      ·exact OM n _ _ (by rw[List.length_append,List.length_singleton];omega)
      ·simp
theorem MQ{l:List Sx}{x:Sx}(h:x∈l):(lI x).length≤(outs l).length:=by
 obtain⟨i,hi⟩:=List.getElem?_of_mem h;have h1:=sU l (i+1);rw[yL hi,List.length_append]at h1;omega
theorem Qg{x:Sx}(g:Gd x):(lI x).all bB=true:=by
 obtain⟨hh,hz,hR,hr⟩:=fM g.f;have h1:=lU (n:=0) hh hr x.rs.length (Nat.le_refl _);unfold lI aS;rw[List.all_append,List.all_append,h1.1,(jI _).1,(jI _).1];rfl
end Sr
namespace Sr
open Go Bt Sh Co Ci Tc Si Wr
attribute [local irreducible] aa ACalls aW aK bP aT cK cF cG
attribute [local irreducible] Tc.bS suD bD rsD dS fO bJ stB ckS kO
theorem stripsOnce_law(s:List UInt8)(hs:s.length≤140737488351232):
  ACalls (cxg gB) 9 [S s] [] (fun r H=>r=B true∧H=[]):=by
 have lv:=yV;by_cases h1:s.length≤6000
 ·have pa:=vN s (by omega);have ho:=B0 (s:=s) (by omega) 66 [] 0 (MG s);have he:=Fv (s:=s) 66 [] 0 (by omega) (by omega);have hP:prX s 66 [] 0=prS s:=by unfold prS;rfl
  rw[hP]at ho he;have hn:=OM (s:=s) 66 [] 0 (by decide);rw[hP]at hn;generalize prS s=P at *;obtain⟨l,e,a,er⟩:=P;simp only at pa ho he hn;by_cases h0:er=0
  ·obtain⟨o1,o2,o3,o4⟩:=ho h0;subst h0;obtain⟨q1,q2⟩:=JA (by omega) o1;have hl:(fO l e).length≤48000:=by
    have:=dY (fO l e);rw[o4]at this;omega
   have hlo:(outs l).length≤48000:=by
    have:(outs l).length≤(fO l e).length:=by unfold fO;rw[List.length_append];omega
    omega
   have ck:=ut l e (by omega) q2;have wr:=uq l e (by omega) q2 (fun x hx=>⟨Qg (o1 x hx).1,by have:=MQ hx;omega⟩);have ew:wrT l e=(s,0):=by
    unfold wrT;rw[if_neg (by rw[o2];decide),if_neg (by omega),o4]
   rw[ew]at wr;rw[o2]at ck;refine ACalls.en Tryz.func9 Tryz.ntmps9 ?_;repeat' (first|refine aa.aF ?_|refine aa.bh true ?_|refine aa.av (lv) ?_|refine aa.av (pa) ?_|refine aa.av (wr) ?_|refine aa.av (ck) ?_|refine aa.ah ?_|refine aa.ae ?_|refine aa.ak ?_|refine aa.aH ?_|refine aa.aD ?_|refine aa.au ?_|refine aa.cf ?_|(apply aa.cBT;rfl;first|(simp only[bT];omega)|(exact decide_eq_true rfl))|intro _|refine aa.aA ?_)
   all_goals exact Tn
  ·obtain⟨rfl,rfl,ha⟩:=he h0;have h00:(dS []).length=0:=by unfold dS;rfl
   refine ACalls.en Tryz.func9 Tryz.ntmps9 ?_;repeat' (first|refine aa.aF ?_|refine aa.bh true ?_|refine aa.av (lv) ?_|refine aa.av (pa) ?_|refine aa.ah ?_|refine aa.ae ?_|refine aa.ak ?_|refine aa.aH ?_|refine aa.aD ?_|refine aa.au ?_|refine aa.cf ?_|refine aa.aQ ?_|intro _|refine aa.aA ?_)
   all_goals exact Tn
 ·refine ACalls.en Tryz.func9 Tryz.ntmps9 ?_;repeat' (first|refine aa.aF ?_|refine aa.bh true ?_|refine aa.av (lv) ?_|refine aa.ah ?_|refine aa.ae ?_|refine aa.ak ?_|refine aa.aH ?_|refine aa.aD ?_|refine aa.au ?_|refine aa.cf ?_|refine aa.aQ ?_|intro _|refine aa.aA ?_)
  all_goals exact Tn
end Sr
namespace Sr
open Go Bt Sh Co Ci Tc Si Wr
attribute [local irreducible] aa ACalls aW aK bP aT cK cF cG
attribute [local irreducible] Tc.bS suD bD rsD dS fO bJ stB ckS kO
theorem yg(l:List Sx)(e:Bool)(hb:Big l.length)(st:∀x∈l,SxI x):
  ACalls (cxg gB) 11 [.d (stD l e)] [] (fun r H=>r=B true∧H=[]):=by
 have lv:=yV;have lt:=Hr (gl:=gB) l e hb st;have hn:=ju l;cases hL:kO l with
 |false =>
  rw[hL]at lt;refine ACalls.en Tryz.func11 Tryz.ntmps11 ?_;repeat' (first|refine aa.aF ?_|refine aa.bh true ?_|refine aa.av (lv) ?_|refine aa.av (lt) ?_|refine aa.aB ?_|refine aa.ak ?_|refine aa.aH ?_|refine aa.aM ?_|refine aa.aD ?_|refine aa.au ?_|refine aa.cf ?_|refine aa.bg ?_|refine aa.aQ ?_|refine aa.aC ?_|intro _|refine aa.aA ?_)
  all_goals exact Tn
 | true =>
  rw[hL]at lt;obtain⟨h70,hlt,hsh,hcs⟩:=J9 hL st;have sc:=ut l e (by omega) hlt;by_cases hc:ckS l=0
  ·obtain⟨hb1,hg,hf⟩:=wh hc;have hft:∀x∈l,Ft x:=fun x hx=>Ga (hg x hx) (hcs x hx)
   have wr:=uq l e (by omega) hlt hft;by_cases hbig:2097152<(fO l e).length
   ·have ew:wrT l e=([],13):=by unfold wrT;rw[if_neg (by rw[hc];decide),if_pos hbig]
    rw[ew]at wr;refine ACalls.en Tryz.func11 Tryz.ntmps11 ?_;repeat' (first|refine aa.aF ?_|refine aa.bh true ?_|refine aa.av (lv) ?_|refine aa.av (lt) ?_|refine aa.av (wr) ?_|refine aa.av (sc) ?_|refine aa.aB ?_|refine aa.ak ?_|refine aa.aH ?_|refine aa.aM ?_|refine aa.aD ?_|refine aa.au ?_|refine aa.cf ?_|refine aa.bg ?_|refine aa.aQ ?_|refine aa.aC ?_|intro _|refine aa.aA ?_)
    all_goals exact Tn
   ·have ew:wrT l e=(bJ (fO l e),0):=by unfold wrT;rw[if_neg (by rw[hc];decide),if_neg hbig]
    rw[ew]at wr;have hpl:=dY (fO l e);have pa:=vN (bJ (fO l e)) (by omega);rw[BI hc (fun x hx=>(hft x hx).d)]at pa;have sm:=IM (gl:=gB) l l e e hsh hsh;rw[IX]at sm;simp only at pa;refine ACalls.en Tryz.func11 Tryz.ntmps11 ?_;repeat' (first|refine aa.aF ?_|refine aa.bh true ?_|refine aa.av (lv) ?_|refine aa.av (lt) ?_|refine aa.av (wr) ?_|refine aa.av (pa) ?_|refine aa.av (sm) ?_|refine aa.aB ?_|refine aa.ak ?_|refine aa.aH ?_|refine aa.aM ?_|refine aa.aD ?_|refine aa.au ?_|refine aa.cf ?_|refine aa.bg ?_|refine aa.aQ ?_|refine aa.aC ?_|intro _|refine aa.aA ?_)
    all_goals exact Tn
  ·have wr:ACalls (cxg gB) 50 [.d (stD l e)] [] (fun r H=>r = .cH [S [],I (ckS l)]∧H=[]):=by
    refine ACalls.en Tryz.func50 Tryz.ntmps50 ?_;repeat' (first|refine aa.aF ?_|refine aa.bh true ?_|refine aa.av (sc) ?_|refine aa.aB ?_|refine aa.ak ?_|refine aa.aH ?_|refine aa.aM ?_|refine aa.aD ?_|refine aa.au ?_|refine aa.cf ?_|refine aa.bg ?_|refine aa.aQ ?_|refine aa.aC ?_|intro _|refine aa.aA ?_)
    all_goals exact Tn
   by_cases h13:ckS l=13
   ·rw[h13]at wr;refine ACalls.en Tryz.func11 Tryz.ntmps11 ?_;repeat' (first|refine aa.aF ?_|refine aa.bh true ?_|refine aa.av (lv) ?_|refine aa.av (lt) ?_|refine aa.av (wr) ?_|refine aa.av (sc) ?_|refine aa.aB ?_|refine aa.ak ?_|refine aa.aH ?_|refine aa.aM ?_|refine aa.aD ?_|refine aa.au ?_|refine aa.cf ?_|refine aa.bg ?_|refine aa.aQ ?_|refine aa.aC ?_|intro _|refine aa.aA ?_)
    all_goals exact Tn
   ·refine ACalls.en Tryz.func11 Tryz.ntmps11 ?_;repeat' (first|refine aa.aF ?_|refine aa.bh true ?_|refine aa.av (lv) ?_|refine aa.av (lt) ?_|refine aa.av (wr) ?_|refine aa.av (sc) ?_|refine aa.aB ?_|refine aa.ak ?_|refine aa.aH ?_|refine aa.aM ?_|refine aa.aD ?_|refine aa.au ?_|refine aa.cf ?_|refine aa.bg ?_|refine aa.aQ ?_|refine aa.aC ?_|intro _|refine aa.aA ?_)
    all_goals exact Tn
theorem stripsBack_law(x:D)(h:TyV tys 11 73 x):ACalls (cxg gB) 11 [.d x] [] (fun r H=>r=B true∧H=[]):=by
 obtain⟨l,e,⟨c,rfl⟩,w,hb,st⟩:=GV 0 x h;exact (yg l e hb st).weak ⟨cJ.d (CW.zo w),trivial⟩
end Sr
end Go.Proofs.YtbpednchkndocaaGreatDoor.Av
