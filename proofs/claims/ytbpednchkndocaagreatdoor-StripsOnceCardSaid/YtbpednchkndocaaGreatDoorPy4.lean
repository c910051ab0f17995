/- Sheets are read: what bits tell of a sheet, no program. Sheets are read: a row's head, a cell. Sheets are read: a row's head, a row. Sheets are read: a row. Noughts behind a sheet: plain laws, no program. Sheets are read: noughts, all rows, sheetin.Take. Sheets are read: all rows, sheetin.Take. -/
import Derived.Test.YtbpednchkndocaaGreatDoorPy3
import Derived.Test.YtbpednchkndocaaGreatDoorPs2
set_option linter.unusedVariables false
set_option linter.unusedSimpArgs false
set_option maxRecDepth 100000
set_option maxHeartbeats 64000000
namespace Go.Proofs.YtbpednchkndocaaGreatDoor.Av
namespace Si
open Go Bt Tc Co Bl Ci Sh
structure Rc where
 cs:List Cel
 err:Int
 q:Nat
 vs:List (Int×Int)
def clT(fm:Int)(x:Rc)(y:Cel×Int×Nat):Rc :=
 if y.2.1≠0 then ⟨x.cs++[y.1],y.2.1,x.q+y.2.2,x.vs⟩
 else if (aL y.1.kind||rP fm x.vs.length (y.1.mx,y.1.my))=true then ⟨x.cs++[y.1],0,x.q+y.2.2,x.vs++[(y.1.mx,y.1.my)]⟩
 else ⟨x.cs++[y.1],8,x.q+y.2.2,x.vs⟩
def clX(fm:Int)(b:Bool)(s:List UInt8)(A F:Int)(x:Rc):Rc:=clT fm x (jb b (ofV x.vs A F).1 (ofV x.vs A F).2 (aG s x.q))
def rcX(fm:Int)(b:Bool)(s:List UInt8)(A F:Int):Nat→Rc→Rc×Bool
 |0,x=>(x,true)
 |n+1,x=>if x.err≠0 then (x,false) else rcX fm b s A F n (clX fm b s A F x)
def hrX(s:List UInt8)(q:Nat)(i:Nat)(L F:Int):Bool×Int×Int×Int×Nat×Int :=
 if i=0∨(Mk.nxB s q).2=false∨(Mk.nxB s q).1=0∨(Mk.nxB s q).1=31 then (false,0,0,0,q,F) else (true,(Mk.rhX s q i).1,(Mk.rhX s q i).2.1,(Mk.rhX s q i).2.2.1,(Mk.rhX s q i).2.2.2,i*L)
structure St where
 rows:List Rw
 vs:List (Int×Int)
 first:Int
 q:Nat
def rwT(x:St)(h:Bool×Int×Int×Int×Nat×Int)(y:Rc×Bool):St×Int :=
 (⟨if y.2=true then x.rows++[⟨h.1,h.2.1,h.2.2.1,y.1.cs⟩] else x.rows,y.1.vs,h.2.2.2.2.2,y.1.q⟩,y.1.err)
def rwH(fm:Int)(b:Bool)(s:List UInt8)(A:Int)(N:Nat)(x:St)(h:Bool×Int×Int×Int×Nat×Int):St×Int:=rwT x h (rcX fm b s A h.2.2.2.2.2 N ⟨[],h.2.2.2.1,h.2.2.2.2.1,x.vs⟩)
def rwX(fm:Int)(b:Bool)(s:List UInt8)(A L:Int)(N i:Nat)(x:St):St×Int:=rwH fm b s A N x (hrX s x.q i L x.first)
def rsX(fm:Int)(b:Bool)(s:List UInt8)(A L:Int)(N:Nat):Nat→Nat→St→St×Int
 |0,_,x=>(x,0)
 |n+1,i,x=>if (rwX fm b s A L N i x).2≠0 then rwX fm b s A L N i x else rsX fm b s A L N n (i+1) (rwX fm b s A L N i x).1
def zrX(s:List UInt8)(q:Nat):Nat :=
 if Mk.zer (aG s q)<8*s.length-q then
  (if 16≤Mk.zer (aG s q)∧(Mk.zer (aG s q)-16)%8=0∧(Mk.atB s (q+(Mk.zer (aG s q)-16))).2=0 then (Mk.zer (aG s q)-16)/8 else 0)
 else (if Mk.zer (aG s q)%8=0 then Mk.zer (aG s q)/8 else 0)
def bhT(s:List UInt8)(y:St×Int):St×Nat×Int×Nat :=
 if y.2≠0 then (y.1,0,y.2,y.1.q)
 else if Mk.gQ s y.1.q=true then (y.1,zrX s (y.1.q+Mk.bE y.1.q),0,y.1.q+Mk.bE y.1.q+8*zrX s (y.1.q+Mk.bE y.1.q))
 else (y.1,0,5,y.1.q)
def bhX(h:Hd)(s:List UInt8)(q:Nat):St×Nat×Int×Nat:=bhT s (rsX h.fmt h.inter s (fA h.fmt) (fL h.fmt) (fA h.fmt*fL h.fmt).toNat (fR h.fmt).toNat 0 ⟨[],[],0,q⟩)
def shT(p:Nat)(h:Hd)(y:St×Nat×Int×Nat):Hd×List Rw×Nat×Int×Nat :=
 if y.2.2.1≠0 then (hd0,[],0,y.2.2.1,p) else (h,y.1.rows,y.2.1,0,y.2.2.2)
def shH(s:List UInt8)(p:Nat)(h:Hd×Int×Nat):Hd×List Rw×Nat×Int×Nat :=
 if h.2.1≠0 then (hd0,[],0,h.2.1,p) else shT p h.1 (bhX h.1 s h.2.2)
def shX(s:List UInt8)(p:Nat):Hd×List Rw×Nat×Int×Nat:=shH s p (hdT s p)
theorem LI(intra:Bool)(s:List UInt8)(p:Nat):∀(cs:List Bool) (q:Nat),p+q≤8*s.length→p+(bdX intra cs (aG s p) q).2.2≤8*s.length
 |[],q,h=>h
 |c::cs,q,h=>by
  have h1:=LC intra c s (p+q) h;rw[bdX,dM];split
  ·exact h
  ·exact LI intra s p cs _ (by omega)
theorem Be(b:Bool)(px py:Int)(s:List UInt8)(p:Nat)(hp:p≤8*s.length):p+(jb b px py (aG s p)).2.2≤8*s.length:=by
 have hB:=xu b 65 0 (aG s p);have hBl:=dN s p;unfold jb Dc;generalize hdX b 65 0 (aG s p)=h at *;obtain⟨h1,h2,h3⟩:=hB;rw[hBl]at h1;have h5:=JQ h.kind px py s (p+h.used) (by omega);have h6:=LI (aL h.kind) s (p+h.used) (cds (4*(mdX h.kind px py (aG s (p+h.used))).pat+h.chr)) (mdX h.kind px py (aG s (p+h.used))).used (by omega);rw[dM];split
 ·simpa using hp
 ·split
  ·simp only;omega
  ·split
   ·simpa using hp
   ·split
    ·simpa using hp
    ·simp only;omega
theorem Ij(p d:Int):I64 (wr p d):=by unfold I64 wr bH;omega
theorem JR(k px py:Int)(B:List Int)(pat st:Int)(q:Nat):I64 (mdM k px py B pat st q).mx∧I64 (mdM k px py B pat st q).my:=by
 unfold mdM;split
 ·exact⟨gY,gY⟩
 ·split
  ·exact⟨Ij _ _,gY⟩
  ·exact⟨Ij _ _,Ij _ _⟩
theorem PW(k px py:Int)(B:List Int):I64 (mdX k px py B).mx∧I64 (mdX k px py B).my:=by
 unfold mdX;split
 ·exact⟨gY,gY⟩
 ·split
  ·split
   ·exact⟨gY,gY⟩
   ·exact JR _ _ _ _ _ _ _
  ·exact JR _ _ _ _ _ _ _
theorem Ld(st k sp mx my:Int)(L:List (Int×List Ev))(hx:I64 mx)(hy:I64 my):I64 (kJ st k sp mx my L).mx∧I64 (kJ st k sp mx my L).my:=by
 unfold kJ;split
 ·exact⟨hx,hy⟩
 ·exact⟨gY,gY⟩
theorem N8(b:Bool)(px py:Int)(B:List Int):I64 (jb b px py B).1.mx∧I64 (jb b px py B).1.my:=by
 unfold jb Dc;generalize hdX b 65 0 B=h;have h1:=PW h.kind px py (B.drop h.used);split
 ·exact⟨gY,gY⟩
 ·split
  ·exact⟨gY,gY⟩
  ·split
   ·exact⟨gY,gY⟩
   ·split
    ·exact⟨gY,gY⟩
    ·exact Ld _ _ _ _ _ _ h1.1 h1.2
theorem H3(b:Bool)(px py:Int)(B:List Int)(h:(jb b px py B).2.1=0):(jb b px py B).1.kind=0∨(jb b px py B).1.kind=1∨(jb b px py B).1.kind=3∨(jb b px py B).1.kind=4:=by
 have hB:=xu b 65 0 B;unfold jb at h ⊢;generalize hdX b 65 0 B=H at *;obtain⟨h1,h2,h3⟩:=hB;unfold Dc at h ⊢;by_cases e0:H.err≠0
 ·rw[if_pos e0]at h;exact absurd h e0
 ·rw[if_neg e0]at h ⊢;by_cases hs:H.skip=true
  ·rw[if_pos hs];exact .inl rfl
  ·rw[if_neg hs]at h ⊢;have hk:=(h3 (by simpa using e0) (by simpa using hs)).1;split
   ·exact .inl rfl
   ·split
    ·exact .inl rfl
    ·simp only;unfold kJ;split
     ·exact hk
     ·exact .inl rfl
structure EN(s:List UInt8)(p v:Nat)(x:Rc):Prop where
 q:x.q≤8*s.length
 p:p≤x.q
 vs:mZ x.vs
 len:x.vs.length≤v+x.cs.length
theorem Il{vs:List (Int×Int)}{p:Int×Int}(h:mZ vs)(h1:I64 p.1∧I64 p.2):mZ (vs++[p]):=fun x hx=>by
 rcases List.mem_append.1 hx with hx|hx
 ·exact h x hx
 ·obtain rfl:=List.mem_singleton.1 hx;exact h1
theorem Bc(fm:Int)(x:Rc)(y:Cel×Int×Nat):(clT fm x y).cs=x.cs++[y.1]:=by
 unfold clT;split
 ·rfl
 ·split<;>rfl
theorem Gq(fm:Int)(x:Rc)(y:Cel×Int×Nat):(clT fm x y).q=x.q+y.2.2:=by
 unfold clT;split
 ·rfl
 ·split<;>rfl
theorem K5{fm:Int}{b:Bool}{s:List UInt8}{A F:Int}{p v:Nat}{x:Rc}(h:EN s p v x):EN s p v (clX fm b s A F x):=by
 have h1:=Be b (ofV x.vs A F).1 (ofV x.vs A F).2 s x.q h.q;have h2:=N8 b (ofV x.vs A F).1 (ofV x.vs A F).2 (aG s x.q);have h3:=h.p;have h4:=h.len;unfold clX;generalize jb b (ofV x.vs A F).1 (ofV x.vs A F).2 (aG s x.q)=y at *;refine⟨?_,?_,?_,?_⟩
 ·rw[Gq];exact h1
 ·rw[Gq];omega
 ·unfold clT;split
  ·exact h.vs
  ·split
   ·exact Il h.vs h2
   ·exact h.vs
 ·rw[Bc,List.length_append,List.length_singleton];unfold clT;split
  ·simp only;omega
  ·split
   ·simp only[List.length_append,List.length_singleton];omega
   ·simp only;omega
theorem D5{fm:Int}{b:Bool}{s:List UInt8}{A F:Int}{p v:Nat}:∀{n:Nat} {x:Rc},EN s p v x→EN s p v (rcX fm b s A F n x).1∧(rcX fm b s A F n x).1.cs.length≤x.cs.length+n
 |0,x,h=>⟨h,Nat.le_refl _⟩
 | n + 1, x, h => by
  unfold rcX;split
  ·exact⟨h,by simp only;omega⟩
  ·have:=D5 (fm:=fm) (b:=b) (A:=A) (F:=F) (n:=n) (K5 (fm:=fm) (b:=b) (A:=A) (F:=F) h);refine⟨this.1,?_⟩;have h2:=this.2;unfold clX at h2;rw[Bc,List.length_append,List.length_singleton]at h2;unfold clX;omega
theorem Pu(s:List UInt8)(p:Nat)(k:Int)(hp:p≤8*s.length):(Mk.rhX s p k).2.2.2≤8*s.length∧p≤(Mk.rhX s p k).2.2.2:=by
 have:=Mk.Jl s p k hp;unfold Mk.rhX;split
 ·exact this
 ·exact⟨hp,Nat.le_refl _⟩
theorem Es(s:List UInt8)(q i:Nat)(L F:Int)(hq:q≤8*s.length):(hrX s q i L F).2.2.2.2.1≤8*s.length∧q≤(hrX s q i L F).2.2.2.2.1:=by
 unfold hrX;split
 ·exact⟨hq,Nat.le_refl _⟩
 ·exact Pu s q i hq
structure EK(s:List UInt8)(p N i:Nat)(x:St):Prop where
 q:x.q≤8*s.length
 p:p≤x.q
 vs:mZ x.vs
 len:x.vs.length≤i*N
 rows:x.rows.length≤i
theorem Ja{fm:Int}{b:Bool}{s:List UInt8}{A L:Int}{p N i:Nat}{x:St}(h:EK s p N i x):EK s p N (i+1) (rwX fm b s A L N i x).1:=by
 have h1:=Es s x.q i L x.first h.q;have h2:=h.p;have h3:=h.len;have h4:=h.rows;unfold rwX rwH;generalize hrX s x.q i L x.first=y at *;have r0:EN s p x.vs.length ⟨[],y.2.2.2.1,y.2.2.2.2.1,x.vs⟩:=⟨h1.1,by simp only;omega,h.vs,Nat.le_refl _⟩;have r1:=D5 (fm:=fm) (b:=b) (A:=A) (F:=y.2.2.2.2.2) (n:=N) r0;generalize rcX fm b s A y.2.2.2.2.2 N ⟨[],y.2.2.2.1,y.2.2.2.2.1,x.vs⟩=z at *;obtain⟨⟨r2,r3,r4,r5⟩,r6⟩:=r1;unfold rwT;refine⟨r2,r3,r4,?_,?_⟩
 ·rw[Nat.add_mul,Nat.one_mul];simp only[List.length_nil,Nat.zero_add]at r6 ⊢;omega
 ·simp only;split
  ·rw[List.length_append,List.length_singleton];omega
  ·omega
theorem Je{fm:Int}{b:Bool}{s:List UInt8}{A L:Int}{p N:Nat}:∀{n i:Nat} {x:St},EK s p N i x→EK s p N (i+n) (rsX fm b s A L N n i x).1
 |0,i,x,h=>h
 | n + 1, i, x, h => by
  have h1:=Ja (fm:=fm) (b:=b) (A:=A) (L:=L) h;unfold rsX;split
  ·exact⟨h1.q,h1.p,h1.vs,Nat.le_trans h1.len (Nat.mul_le_mul_right _ (by omega)),Nat.le_trans h1.rows (by omega)⟩
  ·have:=Je (fm:=fm) (b:=b) (A:=A) (L:=L) (n:=n) h1;rw[show i+1+n=i+(n+1) by omega]at this;exact this
end Si
namespace Si
open Go Bt Sh Co Ci
attribute [local irreducible] aa ACalls aW aK bP aT cK cF cG
abbrev SO(s:List UInt8)(h:Hd)(z:Int)(x:St):List aN :=
 [Rd s (x.q:Int), .cells [.ptr 0 0,I h.ref,I h.flags,I h.fmt,B h.inter,I h.quant, .d (.sl 1 (suD h.supp)), .own 4 (rsD x.rows) 3,I z, .own 2 (vD x.vs) 2,I x.first], .front 91 2 (vD x.vs).length, .front 90 4 (rsD x.rows).length]
attribute [local irreducible] Tc.bS suD bD rsD vD ofV jb rP aG
theorem QH(s:List UInt8)(h:Hd)(z:Int)(rows:List Rw)(x:Rc)(F:Int)(hf:fOk h.fmt=true)(hs:s.length≤1000000)(hq:x.q≤8*s.length)(hv:mZ x.vs)(hl:(x.vs.length:Int)<fA h.fmt*fD h.fmt):
    ACalls (cxg gB) 197 [.ptr 1 0] (SO s h z ⟨rows,x.vs,F,x.q⟩)
      (fun r H=>r = .cH [.d (kU (jb h.inter (ofV x.vs (fA h.fmt) F).1 (ofV x.vs (fA h.fmt) F).2 (aG s x.q)).1),I (clX h.fmt h.inter s (fA h.fmt) F x).err] ∧
        H=SO s h z ⟨rows,(clX h.fmt h.inter s (fA h.fmt) F x).vs,F,(clX h.fmt h.inter s (fA h.fmt) F x).q⟩):=by
  have hA:=KF hf;have hb:=hv.of (fA h.fmt) F;have k1:=jM (gl:=gB) h.fmt;have hln:x.vs.length≤1000000:=by
    have h1:fA h.fmt*fD h.fmt≤88*72:=Int.mul_le_mul hA.2.1 hA.2.2.2 (by omega) (by omega);omega
  have oc:=RH (gl:=gB) x.vs (fA h.fmt) F (by omega) hln;have ct:=K8 h.inter (ofV x.vs (fA h.fmt) F).1 (ofV x.vs (fA h.fmt) F).2 s x.q hb.1 hb.2 hs hq;have hle:=Be h.inter (ofV x.vs (fA h.fmt) F).1 (ofV x.vs (fA h.fmt) F).2 s x.q hq;have hvl:=zN x.vs;have mm:=fun p=>JJ (gl:=gB) h.fmt x.vs.length p hf ⟨by omega,hl⟩
  have hck:=H3 h.inter (ofV x.vs (fA h.fmt) F).1 (ofV x.vs (fA h.fmt) F).2 (aG s x.q);unfold clX;generalize jb h.inter (ofV x.vs (fA h.fmt) F).1 (ofV x.vs (fA h.fmt) F).2 (aG s x.q)=Y at *;obtain⟨c,e,u⟩:=Y;simp only at ct hle ⊢;obtain⟨cs,er,q,vs⟩:=x;simp only at *;have key:∃y,y=clT h.fmt ⟨cs,er,q,vs⟩ (c,e,u):=⟨_,rfl⟩;obtain⟨y,hy⟩:=key;rw[←hy];unfold clT at hy;simp only at hy;obtain⟨st,sk,ki,sp,mx,my,d0,d1,d2,d3,d4,d5,e0,e1,e2,e3,e4,e5⟩:=c;simp only at hy hck;have hmv:=Io vs (mx,my);have mm':=mm (mx,my);unfold SO;simp only;refine ACalls.en Tryz.func197 Tryz.ntmps197 ?_;repeat (first|refine aa.aF ?_|(apply aa.Sk [0,1,2,3,4,5,6,7,8,9,10,11,12,13,14,15,16,17,18,19,20,21,22,23,24,25] 26 19 23;rfl)|refine cK.dh ?_|(apply cK.jA;rfl;(apply eZ.q true;rfl;rfl;first|exact True.intro|omega);exact fun _ _ _ h=>h;(iterate 6 rfl);kernel_rfl;kernel_rfl)|refine cK.fV ?_|(apply cK.go)|refine cF.Qa ?_|refine cF.dh ?_|(apply cF.jA;rfl;(apply eZ.q true;rfl;rfl;first|exact True.intro|omega);exact fun _ _ _ h=>h;(iterate 6 rfl);kernel_rfl;kernel_rfl)|refine cF.NG ?_|(apply cF.iC;rfl;kernel_rfl)|refine cG.bO (k1) ?_|refine cG.bO (oc) ?_|refine cG.aH ?_|refine cG.gH ?_|(apply cF.back)|refine aT.cL ?_|(apply aT.go)|refine aT.dh ?_|refine aT.ku true ?_|refine aT.gq ?_|(apply aT.two;rfl;rfl;rfl;kernel_rfl)|(apply aT.three;rfl;rfl;rfl;rfl;kernel_rfl)|(exact aa.fg)|(refine aa.bv ?_;rfl)|refine aa.bh true ?_|refine aa.aj [0] (ct) ?_|refine aa.av (k1) ?_|refine aa.aB ?_|refine aa.ak ?_|refine aa.aH ?_|refine aa.aD ?_|refine aa.au ?_|refine aa.aQ ?_|refine aa.eG ?_|refine aa.aC ?_|refine aa.aX ?_)
  by_cases he:e=0
  · subst he
    rw[if_neg (by simp)]at hy;rcases hck rfl with rfl|rfl|rfl|rfl
    rotate_left 2
    all_goals
      first
        | (rw [if_pos (by rfl)] at hy
           subst hy;simp only;rw[hmv];repeat' (first|refine aa.aF ?_|(apply aa.gu [0,1,2,3,4,5,6,7,8,9,10,11,12,13,14,15,16,17,18,19,20,21,22,23] 24;rfl)|refine aT.cL ?_|(apply aT.go)|refine aT.dh ?_|(apply aT.pure true;rfl;exact fun _ _ _ h=>h;(iterate 6 rfl);kernel_rfl;kernel_rfl;first|exact True.intro|omega|(rw[hvl];omega))|refine aT.gq ?_|(apply aT.two;rfl;rfl;rfl;kernel_rfl)|(apply aT.three;rfl;rfl;rfl;rfl;kernel_rfl)|(exact aa.fg)|(refine aa.bv ?_;rfl)|(apply aa.gu [0,1,2,3,4,5,6,7,8,9,10,11] 12;rfl)|refine aa.xW ?_|(apply aa.q true;rfl;rfl;rfl;rfl;first|exact True.intro|omega|(simp only[tn,Int.reduceToNat];omega)|(rw[hvl];omega))|refine aa.aB ?_|refine aa.ak ?_|refine aa.aH ?_|refine aa.aD ?_|refine aa.au ?_|refine aa.aQ ?_|refine aa.eG ?_|refine aa.aC ?_|refine aa.aX ?_|intro _|refine aa.aA ?_)
           all_goals first|exact⟨rfl,rfl⟩|omega)
        | (cases hM : rP h.fmt vs.length (mx, my) with
           | true =>
             rw[hM,←hvl]at mm';rw[hM]at hy;rw[if_pos (by rfl)]at hy;subst hy;simp only;rw[hmv];repeat' (first|refine aa.aF ?_|(apply aa.fw [0,1,2,3,4,5,6,7,8,9,10,11,12,13,14,15,16,17,18,19,20,21,22,23] 24 24;rfl)|(apply aW.jA;rfl;(apply eZ.q true;rfl;rfl;first|exact True.intro|omega|(rw[hvl];omega));exact fun _ _ _ h=>h;(iterate 6 rfl);kernel_rfl;kernel_rfl)|(apply aW.load;rfl;rfl;(first|exact True.intro|omega|(rw[hvl];omega));exact fun _ _ _ h=>h;(iterate 6 rfl);kernel_rfl;kernel_rfl)|(apply aW.go)|refine aK.cL ?_|(apply aK.jA;rfl;(apply eZ.q true;rfl;rfl;first|exact True.intro|omega|(rw[hvl];omega));exact fun _ _ _ h=>h;(iterate 6 rfl);kernel_rfl;kernel_rfl)|refine aK.bO (mm') ?_|(exact aa.fg)|(refine aa.bv ?_;rfl)|(apply aa.gu [0,1,2,3,4,5,6,7,8,9,10,11] 12;rfl)|refine aT.cL ?_|(apply aT.go)|refine aT.dh ?_|(apply aT.pure true;rfl;exact fun _ _ _ h=>h;(iterate 6 rfl);kernel_rfl;kernel_rfl;first|exact True.intro|omega|(rw[hvl];omega))|refine aT.gq ?_|(apply aT.two;rfl;rfl;rfl;kernel_rfl)|(apply aT.three;rfl;rfl;rfl;rfl;kernel_rfl)|refine aa.xW ?_|(apply aa.q true;rfl;rfl;rfl;rfl;first|exact True.intro|omega|(simp only[tn,Int.reduceToNat];omega)|(rw[hvl];omega))|refine aa.av (mm') ?_|refine aa.aB ?_|refine aa.ak ?_|refine aa.aH ?_|refine aa.aD ?_|refine aa.au ?_|refine aa.aQ ?_|refine aa.eG ?_|refine aa.aC ?_|refine aa.aX ?_|intro _|refine aa.aA ?_)
             all_goals exact Tn
           | false =>
             rw[hM,←hvl]at mm';rw[hM]at hy;rw[if_neg (by decide)]at hy;subst hy;simp only;repeat' (first|refine aa.aF ?_|(apply aa.fw [0,1,2,3,4,5,6,7,8,9,10,11,12,13,14,15,16,17,18,19,20,21,22,23] 24 24;rfl)|(apply aW.jA;rfl;(apply eZ.q true;rfl;rfl;first|exact True.intro|omega|(rw[hvl];omega));exact fun _ _ _ h=>h;(iterate 6 rfl);kernel_rfl;kernel_rfl)|(apply aW.load;rfl;rfl;(first|exact True.intro|omega|(rw[hvl];omega));exact fun _ _ _ h=>h;(iterate 6 rfl);kernel_rfl;kernel_rfl)|(apply aW.go)|refine aK.cL ?_|(apply aK.jA;rfl;(apply eZ.q true;rfl;rfl;first|exact True.intro|omega|(rw[hvl];omega));exact fun _ _ _ h=>h;(iterate 6 rfl);kernel_rfl;kernel_rfl)|refine aK.bO (mm') ?_|(exact aa.fg)|(refine aa.bv ?_;rfl)|(apply aa.q true;rfl;rfl;rfl;rfl;first|exact True.intro|omega|(simp only[tn,Int.reduceToNat];omega)|(rw[hvl];omega))|refine aa.av (mm') ?_|refine aa.aB ?_|refine aa.ak ?_|refine aa.aH ?_|refine aa.aD ?_|refine aa.au ?_|refine aa.aQ ?_|refine aa.eG ?_|refine aa.aC ?_|refine aa.aX ?_|intro _|refine aa.aA ?_)
             all_goals first|exact⟨rfl,rfl⟩|omega)
  · rw [if_pos he] at hy
    subst hy;simp only;repeat' (first|refine aa.aF ?_|refine aa.bh true ?_|refine aa.aB ?_|refine aa.ak ?_|refine aa.aH ?_|refine aa.aD ?_|refine aa.au ?_|refine aa.aQ ?_|refine aa.eG ?_|refine aa.aC ?_|refine aa.aX ?_|intro _|refine aa.aA ?_)
    all_goals exact Tn
end Si
namespace Si
open Go Bt Sh Co Ci
attribute [local irreducible] aa ACalls aW aK bP aT cK cF cG
theorem Sc(f:Int):0≤fL f∧fL f≤4:=by unfold fL;split<;>(try split)<;>(try split)<;>(try split)<;>(try split)<;>(try split)<;>decide
theorem EZ{gl:List (Nat×List D)}(s:List UInt8)(q:Int):ACalls (cxg gl) 200 [.d (.iptr [.str s,In q])] [] (fun r H=>r=S s∧H=[]):=by
 refine ACalls.en Tryz.func200 Tryz.ntmps200 ?_;repeat' (first|refine aa.aF ?_|refine aa.bh true ?_|refine aa.ak ?_|intro _|refine aa.aA ?_)
 all_goals exact Tp
theorem O0{gl:List (Nat×List D)}(s:List UInt8)(q:Int):ACalls (cxg gl) 19 [.d (.iptr [.str s,In q])] [] (fun r H=>r=I q∧H=[]):=by
 refine ACalls.en Tryz.func19 Tryz.ntmps19 ?_;repeat' (first|refine aa.aF ?_|refine aa.bh true ?_|refine aa.ak ?_|intro _|refine aa.aA ?_)
 all_goals exact Tp
abbrev rwN(hd:Bool)(id q:Int):D := .agg [.bool hd,In id,In q, .aU]
attribute [local irreducible] Tc.bS suD bD rsD vD ofV jb rP aG Mk.nxB Mk.rhX
theorem Et(s:List UInt8)(h:Hd)(z:Int)(x:St)(i:Nat)(hi:i≤1000)(hs:s.length≤1000000)(hq:x.q≤8*s.length):
  ACalls (cxg gB) 196 [.ptr 1 0,I (i:Int)] (SO s h z x)
   (fun r H => r = .cH [.d (rwN (hrX s x.q i (fL h.fmt) x.first).1 (hrX s x.q i (fL h.fmt) x.first).2.1 (hrX s x.q i (fL h.fmt) x.first).2.2.1), I (hrX s x.q i (fL h.fmt) x.first).2.2.2.1] ∧
    H=SO s h z ⟨x.rows,x.vs,(hrX s x.q i (fL h.fmt) x.first).2.2.2.2.2,(hrX s x.q i (fL h.fmt) x.first).2.2.2.2.1⟩):=by
 have hL:=Sc h.fmt;have tx:=EZ (gl:=gB) s x.q;have a0:=O0 (gl:=gB) s x.q;have nx:=Mk.FL (gl:=gB) s x.q (by omega) hq;have rt:=Mk.Jj (gl:=gB) s x.q i (by omega) (by omega) hq;have k2:=rH (gl:=gB) h.fmt;have hmul:(0:Int)≤(i:Int)*fL h.fmt∧(i:Int)*fL h.fmt≤1000*4:=⟨Int.mul_nonneg (by omega) hL.1,Int.mul_le_mul (by omega) hL.2 hL.1 (by omega)⟩;unfold hrX;generalize Mk.nxB s x.q=N at *;generalize Mk.rhX s x.q i=R at *;obtain⟨n,b⟩:=N;obtain⟨rid,rq,re,ru⟩:=R;simp only at nx rt ⊢;unfold SO;simp only;by_cases hc:i=0∨b=false∨n=0∨n=31
 ·rw[if_pos hc];simp only;refine ACalls.en Tryz.func196 Tryz.ntmps196 ?_;repeat' (first|refine aa.aF ?_|refine aa.bh true ?_|refine aa.eP true ?_|refine aa.av (nx) ?_|refine aa.aR (nx) ?_|refine aa.aV ?_|refine aa.ae ?_|refine aa.aB ?_|refine aa.aH ?_|refine aa.aD ?_|refine aa.bG ?_|refine aa.au ?_|refine aa.bg ?_|refine aa.aC ?_|refine aa.iB (tx) ?_|refine aa.iB (a0) ?_|intro _|(apply aa.cZ ;rfl)|(apply aa.gD;rfl;rfl;rfl)|(apply aa.gS;rfl;rfl;rfl)|refine aa.aA ?_)
  all_goals first|exact⟨rfl,rfl⟩|omega|(exfalso;simp_all;done)
 ·rw[if_neg hc];have hb:b=true:=by cases b<;>simp_all
  subst hb;simp only;refine ACalls.en Tryz.func196 Tryz.ntmps196 ?_;repeat' (first|refine aa.aF ?_|((first|apply aa.q true|apply aa.qq true);rfl;rfl;rfl;rfl;first|exact True.intro|omega|(simp only[tn,Int.reduceToNat];omega)|(exact⟨by omega,by omega⟩))|refine aa.aj [0] (rt) ?_|refine aa.av (nx) ?_|refine aa.aR (nx) ?_|refine aa.av (k2) ?_|refine aa.aR (k2) ?_|refine aa.aV ?_|refine aa.ae ?_|refine aa.aB ?_|refine aa.aH ?_|refine aa.aD ?_|refine aa.bG ?_|refine aa.au ?_|refine aa.bg ?_|refine aa.aC ?_|refine aa.iB (tx) ?_|refine aa.iB (a0) ?_|intro _|(apply aa.cZ ;rfl)|(apply aa.gD;rfl;rfl;rfl)|(apply aa.gS;rfl;rfl;rfl)|refine aa.aA ?_)
  all_goals first|exact⟨rfl,rfl⟩|omega|(exfalso;simp_all;done)
end Si
namespace Si
open Go Bt Sh Co Ci
attribute [local irreducible] aa ACalls aW aK bP aT cK cF cG
theorem My(l:List Rw)(r:Rw):rsD (l++[r])=rsD l++[rwD r]:=by simp[rsD]
theorem AY{f:Int}(h:fOk f=true):1≤fA f*fL f∧fA f*fL f≤1000∧fR f*(fA f*fL f)=fA f*fD f∧0≤fR f∧fR f≤18:=by
 have hb:=qj h;have:f=1∨f=2∨f=3∨f=4∨f=5∨f=6:=by omega
 rcases this with rfl|rfl|rfl|rfl|rfl|rfl<;>decide
abbrev RO(s:List UInt8)(h:Hd)(z:Int)(rows:List Rw)(hd:Bool)(id q F:Int)(x:Rc):List aN :=
 SO s h z ⟨rows,x.vs,F,x.q⟩++[.cells [B hd,I id,I q, .own 18 (bD x.cs) 5], .front 96 18 (bD x.cs).length]
attribute [local irreducible] Tc.bS suD bD rsD vD ofV jb rP aG hrX clX
theorem Rp(s:List UInt8)(h:Hd)(z:Int)(x:St)(i N:Nat)(hf:fOk h.fmt=true)(hN:(N:Int)=fA h.fmt*fL h.fmt)(hi:i≤1000)(hs:s.length≤1000000)(hx:EK s 0 N i x)(hlt:(x.vs.length:Int)+N≤fA h.fmt*fD h.fmt):
  ACalls (cxg gB) 127 [.ptr 1 0,I (i:Int)] (SO s h z x)
   (fun r H=>r=I (rwX h.fmt h.inter s (fA h.fmt) (fL h.fmt) N i x).2∧H=SO s h z (rwX h.fmt h.inter s (fA h.fmt) (fL h.fmt) N i x).1):=by
 have hAL:=AY hf;have hdc:=Et s h z x i hi hs hx.q;have hrl:=Es s x.q i (fL h.fmt) x.first hx.q;have k1:=jM (gl:=gB) h.fmt;have k2:=rH (gl:=gB) h.fmt;have hv:=hx.vs;have hrows:=hx.rows;have hrd:=ko x.rows;unfold rwX rwH;generalize hrX s x.q i (fL h.fmt) x.first=y at *;obtain⟨hd,id,q,e,u,F⟩:=y;obtain⟨rows,vs,first,q0⟩:=x;simp only at *;have c0:bD []=[]:=zu;obtain⟨Z,hZ⟩:∃Z,Z=rcX h.fmt h.inter s (fA h.fmt) F N ⟨[],e,u,vs⟩:=⟨_,rfl⟩;rw[←hZ];refine ACalls.en Tryz.func127 Tryz.ntmps127 ?_;repeat (first|refine aa.aF ?_|(apply aa.q true;rfl;rfl;rfl;rfl;first|exact True.intro|omega|(simp only[tn,Int.reduceToNat];omega)|(exact⟨by omega,by omega⟩))|refine aa.aj [0,1,2,3] (hdc) ?_|refine aa.av (k1) ?_|refine aa.av (k2) ?_|refine aa.ah ?_|refine aa.ae ?_|refine aa.aH ?_|refine aa.aD ?_|refine aa.aQ ?_|refine aa.bX ?_|refine aa.aX ?_)
 (apply aa.rT 4 3 96 18;rfl;rfl;simp only[List.set_cons_zero,List.set_cons_succ,List.length_cons,List.length_nil,Nat.reduceAdd,List.cons_append,List.nil_append])
 (apply aa.qO 4 3;rfl;rfl;rfl;rfl;simp only[List.set_cons_zero,List.set_cons_succ])
 refine aa.weak (env':=[(39,I ((0:Nat):Int)),(38,I (fA h.fmt*fL h.fmt)),(10,I e),(9, .ptr 4 0),(0, .ptr 1 0)]) ⟨rfl,rfl,rfl,rfl,rfl,trivial⟩ ?_
 refine aa.loop (fun m env H=>∃(k:Nat) (x:Rc),m=N-k∧k≤N∧x.cs.length=k∧EN s 0 vs.length x∧Z=rcX h.fmt h.inter s (fA h.fmt) F (N-k) x ∧
   env=[(39,I (k:Int)),(38,I (fA h.fmt*fL h.fmt)),(10,I x.err),(9, .ptr 4 0),(0, .ptr 1 0)]∧H=RO s h z rows hd id q F x) N
  ⟨0,⟨[],e,u,vs⟩,rfl,by omega,rfl,⟨hrl.1,by omega,hv,by simp⟩,hZ,rfl,by unfold RO SO;rw[c0];rfl⟩ ?_
 rintro m env H ⟨k,x,rfl,hk,hcl,ok,hz,rfl,rfl⟩;have hcd:=ig x.cs;rcases Nat.lt_or_ge k N with hlk|hge
 ·obtain⟨n,hn⟩:∃n,N-k=n+1:=⟨N-k-1,by omega⟩;rw[hn,rcX]at hz;by_cases he:x.err≠0
  ·rw[if_pos he]at hz;rw[hz];unfold rwT RO SO;simp only;repeat' (first|refine aa.aF ?_|refine aa.bh true ?_|refine aa.ah ?_|refine aa.ae ?_|refine aa.aH ?_|refine aa.aD ?_|refine aa.aQ ?_|refine aa.bX ?_|refine aa.aX ?_|intro _|refine aa.aA ?_|refine aa.aP ?_|refine aa.aJ ?_)
   all_goals exact Tn
  ·rw[if_neg he]at hz;have hvl:=ok.len;have cc:=QH s h z rows x F hf hs ok.q ok.vs (by omega);have ok2:=K5 (fm:=h.fmt) (b:=h.inter) (A:=fA h.fmt) (F:=F) ok;have hcs:(clX h.fmt h.inter s (fA h.fmt) F x).cs=x.cs++[(jb h.inter (ofV x.vs (fA h.fmt) F).1 (ofV x.vs (fA h.fmt) F).2 (aG s x.q)).1]:=by unfold clX;rw[Bc]
   generalize clX h.fmt h.inter s (fA h.fmt) F x=x' at *;generalize (jb h.inter (ofV x.vs (fA h.fmt) F).1 (ofV x.vs (fA h.fmt) F).2 (aG s x.q)).1=c at *;have hca:=zw x.cs c;rw[←hcs]at hca;have hcl':x'.cs.length=k+1:=by rw[hcs,List.length_append,hcl];rfl
   have hn':N-(k+1)=n:=by omega
   unfold RO SO;simp only;repeat' (first|refine aa.aF ?_|(apply aa.append;(iterate 11 rfl);(first|rfl|(simp only[List.length_append,List.length_map,List.length_cons,List.length_nil];omega));(first|(simp only[List.length_append,List.length_map,List.length_cons,List.length_nil];omega)|(rw[hcd];omega));simp only[List.set_cons_zero,List.set_cons_succ])|(apply aa.q true;rfl;rfl;rfl;rfl;first|exact True.intro|omega|(simp only[tn,Int.reduceToNat];omega)|(rw[hcd];omega))|refine aa.aj [0,1,2,3] (cc) ?_|refine aa.ah ?_|refine aa.ae ?_|refine aa.aH ?_|refine aa.aD ?_|refine aa.aQ ?_|refine aa.bX ?_|refine aa.aX ?_|intro _|refine aa.aA ?_|refine aa.aP ?_|refine aa.aJ ?_)
   all_goals first
    |exact aa.jr 6 [(39,I ((k+1:Nat):Int)),(38,I (fA h.fmt*fL h.fmt)),(10,I x'.err),(9, .ptr 4 0),(0, .ptr 1 0)] (N-(k+1)) (by omega) rfl rfl rfl rfl ⟨rfl,rfl,rfl,rfl,rfl,trivial⟩ ⟨k+1,x',rfl,hlk,hcl',ok2,by rw[hn'];exact hz,rfl,by rw[hca];rfl⟩
    |omega
 ·obtain rfl:k=N:=by omega
  rw[Nat.sub_self]at hz;change Z=(x,true)at hz;rw[hz];have hra:=My rows ⟨hd,id,q,x.cs⟩;unfold rwT RO SO;simp only[if_true];rw[hra];simp only[List.cons_append,List.nil_append]
  (apply aa.Ac 4 3;rfl;rfl;simp only[List.set_cons_zero,List.set_cons_succ])
  repeat' (first|refine aa.aF ?_|(apply aa.gu [0,1,2,3,4,5,6,7,8,9,10,11,12] 13;rfl)|refine aT.cL ?_|(apply aT.go)|(apply aT.pure true;rfl;exact fun _ _ _ h=>h;(iterate 6 rfl);kernel_rfl;kernel_rfl;first|exact True.intro|omega|(rw[hrd];omega))|refine aT.gq ?_|(apply aT.two;rfl;rfl;rfl;kernel_rfl)|(exact aa.fg)|(refine aa.bv ?_;rfl)|(apply aa.append;(iterate 11 rfl);(first|rfl|(simp only[List.length_append,List.length_map,List.length_cons,List.length_nil];omega));(first|(simp only[List.length_append,List.length_map,List.length_cons,List.length_nil];omega)|(rw[hrd];omega));simp only[List.set_cons_zero,List.set_cons_succ])|(apply aa.q true;rfl;rfl;rfl;rfl;first|exact True.intro|omega|(simp only[tn,Int.reduceToNat];omega)|(rw[hrd];omega))|refine aa.ah ?_|refine aa.ae ?_|refine aa.aH ?_|refine aa.aD ?_|refine aa.aQ ?_|refine aa.bX ?_|refine aa.aX ?_|intro _|refine aa.aA ?_|refine aa.aP ?_|refine aa.aJ ?_)
  all_goals exact Tn
end Si
namespace Si
open Go Bt Mk
theorem nE:∀(l:List Int) (k:Nat),(∀x∈l,x=0∨x=1)→k≤l.length→(nB (l.take k)=0↔k≤zer l)
 |l,0,_,_=>by simp[nB]
 |[],k+1,_,h=>by simp at h
 | b :: l, k + 1, h1, h => by
  have ih:=nE l k (fun x hx=>h1 x (List.mem_cons_of_mem _ hx)) (by simpa using h);rw[List.take_succ_cons];have e:nB (b::l.take k)=b*2^(l.take k).length+nB (l.take k):=by
   have:=rM [b] (l.take k);have e1:nB [b]=b:=by simp[nB]
   rw[e1]at this;exact this
  have hn:=(mR _ (l.take k) rfl (fun x hx=>h1 x (List.mem_cons_of_mem _ (List.mem_of_mem_take hx)))).1;rw[e];rcases h1 b List.mem_cons_self with rfl|rfl
  ·rw[zer,if_pos rfl];omega
  ·rw[zer,if_neg (by decide)];have:=Int.pow_pos (n:=(2:Int)) (m:=(l.take k).length) (by decide);omega
theorem Bu:∀(l:List Int) (k:Nat),k≤zer l→zer (l.drop k)=zer l-k
 |l,0,_=>by simp
 |[],k+1,h=>by simp[zer]at h
 | b :: l, k + 1, h => by
  rw[zer]at h ⊢;split at h
  ·rename_i hb;rw[if_pos hb,List.drop_succ_cons,Bu l k (by omega)];omega
  ·omega
theorem Ie:∀(l:List Int),zer l<l.length→l[zer l]?≠some 0
 |[],h=>by simp at h
 | b :: l, h => by
  rw[zer]at h ⊢;split
  ·rename_i hb;rw[if_pos hb]at h;rw[List.getElem?_cons_succ];exact Ie l (by simpa using h)
  ·rename_i hb;simpa using hb
theorem rZ(s:List UInt8)(q:Nat):zer (aG s q)≤8*s.length-q:=by
 have:=Ic (aG s q)
 rwa [dN]at this
theorem qz(s:List UInt8)(q k:Nat)(h:k≤zer (aG s q)):zer (aG s (q+k))=zer (aG s q)-k:=by
 rw[←xS,Bu _ _ h]
theorem Bi(s:List UInt8)(r:Nat):(atB s r).2=0↔r+22≤8*s.length∧zer (aG s r)=16:=by
 have h01:=fJ s r;have hl:=dN s r;by_cases h:8*s.length<r+22
 ·unfold atB;rw[if_pos h];constructor
  ·intro e;cases e
  ·intro e;omega
 ·have hs:=(LK s r (by omega)).1;have hz:=nE (aG s r) 16 h01 (by omega);have hb:=mR 16 ((aG s r).take 16) (take_len s r 16 (by omega)) (jf s r 16);have ht:(aG s r).take 17=(aG s r).take 16++[fq s ((r+16:Nat):Int)]:=zC s r 16 (by omega);have hg:(aG s r)[16]?=some (fq s ((r+16:Nat):Int)):=by
   unfold aG;rw[List.getElem?_map,List.getElem?_range (by omega)];rfl
  have hm:=h01 _ (List.mem_of_getElem? hg);rw[ht,kz]at hs;have hat:=Ie (aG s r);have hzt:=nE (aG s r) 17 h01 (by omega);rw[ht,kz]at hzt;unfold atB;rw[if_neg h,hs];constructor
  ·intro e;refine⟨by omega,?_⟩;split at e
   ·rename_i h1;have:16≤zer (aG s r):=hz.1 (by omega);omega
   ·cases e
  ·rintro ⟨_,e⟩;have h0:nB ((aG s r).take 16)=0:=hz.2 (by omega);have hb1:fq s ((r+16:Nat):Int)=1:=by
    rcases hm with hm|hm
    ·exfalso;have:=hzt.1 (by omega);omega
    ·exact hm
   rw[if_pos (by omega)]
structure ZrI(s:List UInt8)(q n:Nat):Prop where
 zer:8*n≤zer (aG s q)
 no:∀m,m<n→(atB s (q+8*m)).2≠0
theorem QY{s:List UInt8}{q n:Nat}(hq:q≤8*s.length)(h:ZrI s q n)(ha:(atB s (q+8*n)).2=0):zrX s q=n:=by
 obtain⟨a1,a2⟩:=(Bi s (q+8*n)).1 ha;rw[qz s q (8*n) h.zer]at a2;have hz:=h.zer;unfold zrX;rw[if_pos (by omega)];have e:zer (aG s q)-16=8*n:=by omega
 rw[e,if_pos ⟨by omega,by omega,ha⟩];omega
theorem O4{s:List UInt8}{q n:Nat}(h:ZrI s q n)(ha:q+8*n=8*s.length):zrX s q=n:=by
 have:=rZ s q;have hz:=h.zer;unfold zrX;rw[if_neg (by omega),if_pos (by omega)];omega
end Si
namespace Si
open Go Bt Sh Co Ci
attribute [local irreducible] aa ACalls aW aK bP aT cK cF cG
attribute [local irreducible] Tc.bS suD bD rsD vD aG
theorem Nu{gl:List (Nat×List D)}(s:List UInt8)(q:Nat)(hs:s.length≤1000000)(hq:q≤8*s.length):ACalls (cxg gl) 29 [.ptr 0 0] [Rd s (q:Int)] (fun r H=>r=I (8*(s.length:Int)-(q:Int))∧H=[Rd s (q:Int)]):=Mk.Az (gl:=gl) s q (by omega) hq
theorem LW(s:List UInt8)(h:Hd)(x:St)(hs:s.length≤1000000)(hq:x.q≤8*s.length)(h8:x.q%8=0):
  ACalls (cxg gB) 129 [.ptr 1 0] (SO s h 0 x) (fun r H=>r = .cH []∧H=SO s h (zrX s x.q:Nat) ⟨x.rows,x.vs,x.first,x.q+8*zrX s x.q⟩):=by
 have tx:=EZ (gl:=gB) s x.q;have a0:=O0 (gl:=gB) s x.q;have a1:=ui (gl:=gB) s x.q;have t1:=Mk.DG (gl:=gB) s x.q;have lf:=Nu (gl:=gB) s x.q hs hq;have zc:=Mk.JH (gl:=gB) s x.q (by omega) hq;have hzb:=rZ s x.q;obtain⟨rows,vs,first,q⟩:=x;simp only at *;unfold zrX;generalize hz:Mk.zer (aG s q)=Z at *;unfold SO;simp only;by_cases hl:Z<8*s.length-q
 ·rw[if_pos hl];by_cases h16:16≤Z∧(Z-16)%8=0
  ·have ma:=Mk.CG (gl:=gB) s (q+(Z-16)) (by omega) (by omega);have sk:=gI (gl:=gB) s (q:Int) (q+(Z-16)) (by omega) ⟨by omega,by omega⟩;have eq:((q+(Z-16):Nat):Int)=(q:Int)+((Z:Int)-16):=by omega
   rw[eq]at ma;generalize Mk.atB s (q+(Z-16))=A at *;obtain⟨v,e⟩:=A;simp only at ma ⊢;by_cases he:e=0
   ·have e1:(((Z-16)/8:Nat):Int)=((Z:Int)-16)/8:=by omega
    have e2:((q+8*((Z-16)/8):Nat):Int)=(q:Int)+((Z:Int)-16):=by omega
    rw[if_pos ⟨h16.1,h16.2,he⟩,e1,e2];refine ACalls.en Tryz.func129 Tryz.ntmps129 ?_;repeat' (first|refine aa.aF ?_|(apply aa.gu [0,1,2,3,4,5,6,7,8,9,10,11] 12;rfl)|refine aT.cL ?_|(apply aT.go)|refine aT.ku true ?_|refine aT.gq ?_|(apply aT.two;rfl;rfl;rfl;kernel_rfl)|(exact aa.fg)|(refine aa.bv ?_;rfl)|refine aa.bh true ?_|refine aa.eP true ?_|refine aa.aj [0] (t1) ?_|refine aa.aj [0] (a1) ?_|refine aa.aj [0] (lf) ?_|refine aa.aj [0] (sk) ?_|refine aa.av (zc) ?_|refine aa.aR (zc) ?_|refine aa.av (ma) ?_|refine aa.aR (ma) ?_|refine aa.aV ?_|refine aa.ah ?_|refine aa.ae ?_|refine aa.aB ?_|refine aa.aD ?_|refine aa.au ?_|refine aa.cf ?_|refine aa.bg ?_|refine aa.aQ ?_|refine aa.bX ?_|refine aa.aC ?_|refine aa.iB (tx) ?_|refine aa.iB (a0) ?_|refine aa.lL ?_|intro _|(apply aa.gD;rfl;rfl;rfl)|refine aa.aA ?_)
    all_goals exact Tn
   ·rw[if_neg (fun h=>he h.2.2)];refine ACalls.en Tryz.func129 Tryz.ntmps129 ?_;repeat' (first|refine aa.aF ?_|(apply aa.gu [0,1,2,3,4,5,6,7,8,9,10,11] 12;rfl)|refine aT.cL ?_|(apply aT.go)|refine aT.ku true ?_|refine aT.gq ?_|(apply aT.two;rfl;rfl;rfl;kernel_rfl)|(exact aa.fg)|(refine aa.bv ?_;rfl)|refine aa.bh true ?_|refine aa.eP true ?_|refine aa.aj [0] (t1) ?_|refine aa.aj [0] (a1) ?_|refine aa.aj [0] (lf) ?_|refine aa.av (zc) ?_|refine aa.aR (zc) ?_|refine aa.av (ma) ?_|refine aa.aR (ma) ?_|refine aa.aV ?_|refine aa.ah ?_|refine aa.ae ?_|refine aa.aB ?_|refine aa.aD ?_|refine aa.au ?_|refine aa.cf ?_|refine aa.bg ?_|refine aa.aQ ?_|refine aa.bX ?_|refine aa.aC ?_|refine aa.iB (tx) ?_|refine aa.iB (a0) ?_|refine aa.lL ?_|intro _|(apply aa.gD;rfl;rfl;rfl)|refine aa.aA ?_)
    all_goals exact Tn
  ·rw[if_neg (fun h=>h16 ⟨h.1,h.2.1⟩)];refine ACalls.en Tryz.func129 Tryz.ntmps129 ?_;repeat' (first|refine aa.aF ?_|(apply aa.gu [0,1,2,3,4,5,6,7,8,9,10,11] 12;rfl)|refine aT.cL ?_|(apply aT.go)|refine aT.ku true ?_|refine aT.gq ?_|(apply aT.two;rfl;rfl;rfl;kernel_rfl)|(exact aa.fg)|(refine aa.bv ?_;rfl)|refine aa.bh true ?_|refine aa.eP true ?_|refine aa.aj [0] (t1) ?_|refine aa.aj [0] (a1) ?_|refine aa.aj [0] (lf) ?_|refine aa.av (zc) ?_|refine aa.aR (zc) ?_|refine aa.aV ?_|refine aa.ah ?_|refine aa.ae ?_|refine aa.aB ?_|refine aa.aD ?_|refine aa.au ?_|refine aa.cf ?_|refine aa.bg ?_|refine aa.aQ ?_|refine aa.bX ?_|refine aa.aC ?_|refine aa.iB (tx) ?_|refine aa.iB (a0) ?_|refine aa.lL ?_|intro _|(apply aa.gD;rfl;rfl;rfl)|refine aa.aA ?_)
   all_goals exact Tn
 ·rw[if_neg hl];have hZ:Z=8*s.length-q:=by omega
  rw[if_pos (by omega)];have ma:=Mk.CG (gl:=gB) s (q+Z) (by omega) (by omega);have sk:=gI (gl:=gB) s (q:Int) (q+Z) (by omega) ⟨by omega,by omega⟩;have eA:Mk.atB s (q+Z)=(0,2):=by unfold Mk.atB;rw[if_pos (by omega)]
  rw[eA]at ma;have eq:((q+Z:Nat):Int)=(q:Int)+(Z:Int):=by omega
  rw[eq]at ma;have e1:((Z/8:Nat):Int)=(Z:Int)/8:=by omega
  have e2:((q+8*(Z/8):Nat):Int)=(q:Int)+(Z:Int):=by omega
  rw[e1,e2];refine ACalls.en Tryz.func129 Tryz.ntmps129 ?_;repeat' (first|refine aa.aF ?_|(apply aa.gu [0,1,2,3,4,5,6,7,8,9,10,11] 12;rfl)|refine aT.cL ?_|(apply aT.go)|refine aT.ku true ?_|refine aT.gq ?_|(apply aT.two;rfl;rfl;rfl;kernel_rfl)|(exact aa.fg)|(refine aa.bv ?_;rfl)|refine aa.bh true ?_|refine aa.eP true ?_|refine aa.aj [0] (t1) ?_|refine aa.aj [0] (a1) ?_|refine aa.aj [0] (lf) ?_|refine aa.aj [0] (sk) ?_|refine aa.av (zc) ?_|refine aa.aR (zc) ?_|refine aa.av (ma) ?_|refine aa.aR (ma) ?_|refine aa.aV ?_|refine aa.ah ?_|refine aa.ae ?_|refine aa.aB ?_|refine aa.aD ?_|refine aa.au ?_|refine aa.cf ?_|refine aa.bg ?_|refine aa.aQ ?_|refine aa.bX ?_|refine aa.aC ?_|refine aa.iB (tx) ?_|refine aa.iB (a0) ?_|refine aa.lL ?_|intro _|(apply aa.gD;rfl;rfl;rfl)|refine aa.aA ?_)
  all_goals exact Tn
end Si
namespace Si
open Go Bt Sh Co Ci
attribute [local irreducible] aa ACalls aW aK bP aT cK cF cG
def bhS(y:St×Nat×Int×Nat):St:=⟨y.1.rows,y.1.vs,y.1.first,y.2.2.2⟩
attribute [local irreducible] Tc.bS suD bD rsD vD aG rwX zrX Mk.gQ
theorem Oq(s:List UInt8)(h:Hd)(q:Nat)(hf:fOk h.fmt=true)(hs:s.length≤1000000)(hq:q≤8*s.length):
  ACalls (cxg gB) 56 [.ptr 1 0] (SO s h 0 ⟨[],[],0,q⟩) (fun r H=>r=I (bhX h s q).2.2.1∧H=SO s h ((bhX h s q).2.1:Nat) (bhS (bhX h s q))):=by
 have hAL:=AY hf;have k2:=rH (gl:=gB) h.fmt;obtain⟨N,hN⟩:∃N:Nat,N=(fA h.fmt*fL h.fmt).toNat:=⟨_,rfl⟩;obtain⟨R,hR⟩:∃R:Nat,R=(fR h.fmt).toNat:=⟨_,rfl⟩;have hNi:(N:Int)=fA h.fmt*fL h.fmt:=by omega
 have hRi:(R:Int)=fR h.fmt:=by omega
 have hRN:((R*N:Nat):Int)=fA h.fmt*fD h.fmt:=by rw[Int.natCast_mul,hNi,hRi];exact hAL.2.2.1
 unfold bhX;rw[←hN,←hR];obtain⟨Z,hZ⟩:∃Z,Z=rsX h.fmt h.inter s (fA h.fmt) (fL h.fmt) N R 0 ⟨[],[],0,q⟩:=⟨_,rfl⟩;rw[←hZ];refine ACalls.en Tryz.func56 Tryz.ntmps56 ?_;repeat (first|refine aa.aF ?_|refine aa.bh true ?_|refine aa.av (k2) ?_|refine aa.ah ?_|refine aa.ae ?_|refine aa.aB ?_|refine aa.ak ?_|refine aa.aQ ?_|refine aa.bX ?_)
 refine aa.weak (env':=[(19,I ((0:Nat):Int)),(18,I (fR h.fmt)),(0, .ptr 1 0)]) ⟨rfl,rfl,rfl,trivial⟩ ?_;refine aa.loop (fun m env H=>∃(i:Nat) (x:St),m=R-i∧i≤R∧EK s 0 N i x∧Z=rsX h.fmt h.inter s (fA h.fmt) (fL h.fmt) N (R-i) i x∧env=[(19,I (i:Int)),(18,I (fR h.fmt)),(0, .ptr 1 0)]∧H=SO s h 0 x) R
  ⟨0,⟨[],[],0,q⟩,rfl,by omega,⟨hq,by omega,by simp[mZ],by simp,by simp⟩,hZ,rfl,rfl⟩ ?_
 rintro m env H ⟨i,x,rfl,hi,ok,hz,rfl,rfl⟩;rcases Nat.lt_or_ge i R with hlt|hge
 ·obtain⟨n,hn⟩:∃n,R-i=n+1:=⟨R-i-1,by omega⟩;rw[hn,rsX]at hz;have hmul:(i+1)*N≤R*N:=Nat.mul_le_mul_right _ hlt;have hlen:=ok.len;rw[Nat.add_mul,Nat.one_mul]at hmul;have rc:=Rp s h 0 x i N hf hNi (by omega) hs ok (by omega);have ok2:=Ja (fm:=h.fmt) (b:=h.inter) (A:=fA h.fmt) (L:=fL h.fmt) ok;generalize rwX h.fmt h.inter s (fA h.fmt) (fL h.fmt) N i x=y at *;obtain⟨x',e⟩:=y;simp only at hz rc ok2;have hn':R-(i+1)=n:=by omega
  by_cases he:e=0
  ·rw[if_neg (by simpa using he)]at hz;repeat' (first|refine aa.aF ?_|refine aa.bh true ?_|refine aa.aj [0,1,2,3] (rc) ?_|refine aa.ah ?_|refine aa.ae ?_|refine aa.aB ?_|refine aa.ak ?_|refine aa.aQ ?_|refine aa.bX ?_|intro _|refine aa.aA ?_|refine aa.aP ?_|refine aa.aJ ?_)
   all_goals first
    |exact aa.round [(19,I ((i+1:Nat):Int)),(18,I (fR h.fmt)),(0, .ptr 1 0)] (R-(i+1)) (by omega) ⟨rfl,rfl,rfl,trivial⟩ ⟨i+1,x',rfl,hlt,ok2,by rw[hn'];exact hz,rfl,rfl⟩
    |omega
  ·rw[if_pos he]at hz;rw[hz];unfold bhT bhS;simp only;rw[if_pos he];simp only;repeat' (first|refine aa.aF ?_|refine aa.bh true ?_|refine aa.aj [0,1,2,3] (rc) ?_|refine aa.ah ?_|refine aa.ae ?_|refine aa.aB ?_|refine aa.ak ?_|refine aa.aQ ?_|refine aa.bX ?_|intro _|refine aa.aA ?_|refine aa.aP ?_|refine aa.aJ ?_)
   all_goals exact Tn
 ·obtain rfl:i=R:=by omega
  rw[Nat.sub_self]at hz;change Z=(x,0)at hz;rw[hz];have fl:=Mk.AU (gl:=gB) s x.q (by omega) ok.q;have hle:=Mk.kx s x.q ok.q;have zc:=LW s h ⟨x.rows,x.vs,x.first,x.q+Mk.bE x.q⟩ hs hle (by simp only[Mk.bE];omega);obtain⟨rows,vs,first,q'⟩:=x;unfold bhT bhS;simp only[ne_eq,not_true_eq_false,if_false]at fl zc ⊢;cases hp:Mk.gQ s q' with
  |true =>
   rw[hp]at fl;simp only[if_true]at fl ⊢;repeat' (first|refine aa.aF ?_|refine aa.bh true ?_|refine aa.aj [0] (fl) ?_|refine aa.aj [0,1,2,3] (zc) ?_|refine aa.ah ?_|refine aa.ae ?_|refine aa.aB ?_|refine aa.ak ?_|refine aa.aQ ?_|refine aa.bX ?_|intro _|refine aa.aA ?_|refine aa.aP ?_|refine aa.aJ ?_)
   all_goals exact Tn
  |false =>
   rw[hp]at fl;simp only[Bool.false_eq_true,if_false]at fl ⊢;repeat' (first|refine aa.aF ?_|refine aa.bh true ?_|refine aa.aj [0] (fl) ?_|refine aa.ah ?_|refine aa.ae ?_|refine aa.aB ?_|refine aa.ak ?_|refine aa.aQ ?_|refine aa.bX ?_|intro _|refine aa.aA ?_|refine aa.aP ?_|refine aa.aJ ?_)
   all_goals exact Tn
theorem NE{s:List UInt8}{p:Nat}(h:(hdT s p).2.1=0):fOk (hdT s p).1.fmt=true:=by
 have h4:(dz s p 4).2.1=0:=by
  by_cases h4:(dz s p 4).2.1=0
  ·exact h4
  ·rw[FX (by decide) h4]at h;exact absurd h h4
 have hR:(hdR s p).2.1=0:=by
  by_cases hR:(hdR s p).2.1=0
  ·exact hR
  ·unfold hdT at h;rw[if_neg hR]at h;exact absurd h hR
 have hT:hdT s p=hdR s p:=by unfold hdT;rw[if_pos hR]
 rw[hT];show fOk (dz s p 4).1=true;have e4:dz s p 4=ptX s 3 ckF (dz s p 3).2:=rfl;rw[e4]at h4 ⊢;unfold ptX at h4 ⊢;split at h4
 ·rename_i h0;split at h4
  ·cases h4
  ·rename_i h1;rw[if_pos h0,if_neg h1];unfold ckF at h4;split at h4
   ·assumption
   ·cases h4
 ·rename_i h0;exact absurd h4 h0
theorem BJ:bW R4 (shD hd0 (rsD []) 0):=Ci.xY rfl (by simp[D.one]) (fun i c d hc hd=>by
 match i,hc,hd with
 |0,hc,hd|1,hc,hd|2,hc,hd|3,hc,hd|4,hc,hd|7,hc,hd=>cases hc;cases hd;exact bW.refl _
 |5,hc,hd =>
  cases hc;have e:suD hd0.supp=[]:=by unfold suD hd0;rfl
  rw[e]at hd;cases hd;exact bW.aU 1
 |6,hc,hd =>
  cases hc;have e:rsD []=[]:=by unfold rsD;rfl
  rw[e]at hd
  cases hd;exact bW.aU 4)
attribute [local irreducible] hdT bhX
theorem wQ(s:List UInt8)(p:Nat)(hs:s.length≤1000000)(hp:p≤8*s.length):
  ACalls (cxg gB) 15 [.ptr 0 0] [Rd s (p:Int)]
   (fun r H=>r = .cH [.d (shD (shX s p).1 (rsD (shX s p).2.1) ((shX s p).2.2.1:Nat)),I (shX s p).2.2.2.1]∧H=[Rd s ((shX s p).2.2.2.2:Int)]):=by
 have r0:rsD []=[]:=by unfold rsD;rfl
 have v0:vD []=[]:=by unfold vD;rfl
 have a0:=ui (gl:=gB) s p;have st:=I3 (gl:=gB) s p (by omega) hp;have hle:=Kk s p hp;have hfo:=NE (s:=s) (p:=p);have sk:=fun c:Int=>gI (gl:=gB) s c p (by omega) ⟨by omega,by omega⟩
 unfold shX shH;generalize hdT s p=T at *;obtain⟨h,e,q⟩:=T;simp only at st hle hfo ⊢;refine ACalls.en Tryz.func15 Tryz.ntmps15 ?_;repeat (first|refine aa.aF ?_|refine aa.bh true ?_|refine aa.aj [0] (a0) ?_|refine aa.aj [0] (st) ?_|refine aa.ae ?_|refine aa.aB ?_|refine aa.ak ?_|refine aa.aH ?_|refine aa.aM ?_|refine aa.aD ?_|refine aa.bG ?_|refine aa.aQ ?_)
 by_cases he:e=0
 ·subst he;have br:=Oq s h q (hfo rfl) hs hle.1;simp only[ne_eq,not_true_eq_false,if_false];unfold shT;generalize bhX h s q=y at *;obtain⟨⟨rows,vs,first,q1⟩,z,e,u⟩:=y;unfold SO bhS at br;simp only at br ⊢;rw[r0,v0]at br
  (apply aa.rT 3 9 91 2;rfl;rfl;simp only[List.set_cons_zero,List.set_cons_succ,List.length_cons,List.length_nil,Nat.reduceAdd,List.cons_append,List.nil_append])
  (apply aa.qO 3 9;rfl;rfl;rfl;rfl;simp only[List.set_cons_zero,List.set_cons_succ])
  (apply aa.rT 3 7 90 4;rfl;rfl;simp only[List.set_cons_zero,List.set_cons_succ,List.length_cons,List.length_nil,Nat.reduceAdd,List.cons_append,List.nil_append])
  (apply aa.qO 3 7;rfl;rfl;rfl;rfl;simp only[List.set_cons_zero,List.set_cons_succ])
  by_cases he:e=0
  ·subst he;rw[if_neg (by simp)];repeat' (first|refine aa.aF ?_|refine aa.bh true ?_|refine aa.aj [0,3,4,5] (br) ?_|refine aa.ae ?_|refine aa.aB ?_|refine aa.ak ?_|refine aa.aH ?_|refine aa.aM ?_|refine aa.aD ?_|refine aa.bG ?_|refine aa.aQ ?_|refine aa.xa 3 7 ?_|intro _|refine aa.aA ?_)
   all_goals exact Tn
  ·rw[if_pos he];repeat' (first|refine aa.aF ?_|refine aa.bh true ?_|refine aa.aj [0,3,4,5] (br) ?_|refine aa.aj [0] (sk _) ?_|refine aa.ae ?_|refine aa.aB ?_|refine aa.ak ?_|refine aa.aH ?_|refine aa.aM ?_|refine aa.aD ?_|refine aa.bG ?_|refine aa.aQ ?_|(apply aa.nP (.cH [.d (shD hd0 (rsD []) 0),I e]);rfl;exact cJ.cH ⟨cJ.d BJ,cJ.refl _,trivial⟩;rfl;rfl;rfl)|intro _|refine aa.aA ?_)
   all_goals exact Tn
 ·rw[if_pos he];repeat' (first|refine aa.aF ?_|refine aa.bh true ?_|refine aa.aj [0] (sk _) ?_|refine aa.ae ?_|refine aa.aB ?_|refine aa.ak ?_|refine aa.aH ?_|refine aa.aM ?_|refine aa.aD ?_|refine aa.bG ?_|refine aa.aQ ?_|(apply aa.nP (.cH [.d (shD hd0 (rsD []) 0),I e]);rfl;exact cJ.cH ⟨cJ.d BJ,cJ.refl _,trivial⟩;rfl;rfl;rfl)|intro _|refine aa.aA ?_)
  all_goals exact Tn
end Si
end Go.Proofs.YtbpednchkndocaaGreatDoor.Av
