/- Cells are read: what is told of bits. Cells are read: steps; the parts' contracts. Cells are read: cellin's head. Cells are read: cellin's middle. -/
import Derived.Test.YtbpednchkndocaaGreatDoorPq2
import Derived.Test.YtbpednchkndocaaGreatDoorCo1
import Derived.Test.YtbpednchkndocaaGreatDoorPq3
import Derived.Test.YtbpednchkndocaaGreatDoorPq11
import Derived.Test.YtbpednchkndocaaGreatDoorPn5
set_option linter.unusedVariables false
set_option linter.unusedSimpArgs false
set_option maxRecDepth 100000
set_option maxHeartbeats 64000000
namespace Go.Proofs.YtbpednchkndocaaGreatDoor.Av
namespace Ci
open Go Bt Tc Co Bl
attribute [local irreducible] aa ACalls
variable {gl:List (Nat×List D)}
def mbN(b:Bool)(B:List Int):Int×Int×Int×Nat:=Mb.mbX b (B.map cn)
def cbN(b:Bool)(B:List Int):Int×Int×Nat:=((Cb.cbX b (B.map cn)).1,(Cb.cbX b (B.map cn)).2.1,if (Cb.cbX b (B.map cn)).2.1=0 then (Cb.cbX b (B.map cn)).2.2 else 0)
def mvN(B:List Int):Int×Int×Nat:=((Mv.mt B 0 1).1,(Mv.mt B 0 1).2.1,if (Mv.mt B 0 1).2.1=0 then (Mv.mt B 0 1).2.2 else 0)
def stX(v:Int)(n:Nat):Int×Int×Nat:=if n<2 then (0,2,0) else (if 2≤v then v-1 else -1-v,0,2)
def stN(B:List Int):Int×Int×Nat:=stX (nB (B.take 2)) B.length
structure HdR where
 stuff:Int
 skip:Bool
 kind:Int
 chr:Int
 err:Int
 used:Nat
def hdK(n:Int)(k:Nat)(x:Int×Int×Int×Nat)(y:HdR):HdR :=
 if x.2.2.1≠0 then ⟨n,false,0,0,x.2.2.1,k⟩ else
 if x.1≠5 then ⟨n,false,x.1,x.2.1,0,k+x.2.2.2⟩ else
 if n=64 then ⟨n,false,0,0,13,k+x.2.2.2⟩ else
 { y with used:=k+x.2.2.2+y.used }
def hdX(b:Bool):Nat→Int→List Int→HdR
  |0,n,_=>⟨n,false,0,0,13,0⟩
  | f + 1, n, B =>
    if b=true then
      (if B = [] then ⟨n, false, 0, 0, 2, 0⟩ else if B.getD 0 0 = 1 then ⟨n, true, 0, 0, 0, 1⟩ else
       hdK n 1 (mbN b (B.drop 1)) (hdX b f (n+1) (B.drop (1+(mbN b (B.drop 1)).2.2.2))))
    else hdK n 0 (mbN b B) (hdX b f (n+1) (B.drop (mbN b B).2.2.2))
structure MdR where
 pat:Int
 step:Int
 mx:Int
 my:Int
 err:Int
 used:Nat
def wr(p d:Int):Int:=bH (bH p+d)
def mdM(k px py:Int)(B:List Int)(pat step:Int)(q:Nat):MdR :=
 if aL k=true then ⟨pat,step,0,0,0,q⟩ else
 if (mvN (B.drop q)).2.1≠0 then ⟨pat,step,wr px (mvN (B.drop q)).1,0,(mvN (B.drop q)).2.1,q⟩ else
 ⟨pat,step,wr px (mvN (B.drop q)).1,wr py (mvN (B.drop (q+(mvN (B.drop q)).2.2))).1,(mvN (B.drop (q+(mvN (B.drop q)).2.2))).2.1,q+(mvN (B.drop q)).2.2+(mvN (B.drop (q+(mvN (B.drop q)).2.2))).2.2⟩
def mdX(k px py:Int)(B:List Int):MdR :=
  if (cbN (aL k) B).2.1≠0 then ⟨(cbN (aL k) B).1,0,0,0,(cbN (aL k) B).2.1,0⟩ else
  if dw k=true then
    (if (stN (B.drop (cbN (aL k) B).2.2)).2.1 ≠ 0 then ⟨(cbN (aL k) B).1, (stN (B.drop (cbN (aL k) B).2.2)).1, 0, 0, (stN (B.drop (cbN (aL k) B).2.2)).2.1, (cbN (aL k) B).2.2⟩ else
     mdM k px py B (cbN (aL k) B).1 (stN (B.drop (cbN (aL k) B).2.2)).1 ((cbN (aL k) B).2.2+(stN (B.drop (cbN (aL k) B).2.2)).2.2))
  else mdM k px py B (cbN (aL k) B).1 0 (cbN (aL k) B).2.2
def cB(v:Int)(i:Nat):Bool:=decide (v/2^(5-i)%2=1)
def bdX(intra:Bool):List Bool→List Int→Nat→List (Int×List Ev)×Int×Nat
 |[],_,q=>([],0,q)
 |c::cs,B,q =>
  if (blX intra c (B.drop q)).2.2.1≠0 then ([],(blX intra c (B.drop q)).2.2.1,q) else
  (((blX intra c (B.drop q)).1,(blX intra c (B.drop q)).2.1)::(bdX intra cs B (q+(blX intra c (B.drop q)).2.2.2)).1,(bdX intra cs B (q+(blX intra c (B.drop q)).2.2.2)).2)
def cds(v:Int):List Bool:=[cB v 0,cB v 1,cB v 2,cB v 3,cB v 4,cB v 5]
def EF:Cel:=⟨0,false,0,0,0,0,0,0,0,0,0,0,[],[],[],[],[],[]⟩
def kJ(st k sp mx my:Int):List (Int×List Ev)→Cel
 |[b0,b1,b2,b3,b4,b5]=>⟨st,false,k,sp,mx,my,b0.1,b1.1,b2.1,b3.1,b4.1,b5.1,b0.2,b1.2,b2.2,b3.2,b4.2,b5.2⟩
 |_=>EF
def Dc(px py:Int)(B:List Int)(h:HdR):Cel×Int×Nat :=
  if h.err≠0 then (EF,h.err,0) else
  if h.skip=true then (⟨h.stuff,true,0,0,0,0,0,0,0,0,0,0,[],[],[],[],[],[]⟩,0,h.used) else
  if (mdX h.kind px py (B.drop h.used)).err≠0 then (EF,(mdX h.kind px py (B.drop h.used)).err,0) else
  if (bdX (aL h.kind) (cds (4*(mdX h.kind px py (B.drop h.used)).pat+h.chr)) (B.drop h.used) (mdX h.kind px py (B.drop h.used)).used).2.1≠0 then (EF,(bdX (aL h.kind) (cds (4*(mdX h.kind px py (B.drop h.used)).pat+h.chr)) (B.drop h.used) (mdX h.kind px py (B.drop h.used)).used).2.1,0) else
  (kJ h.stuff h.kind (mdX h.kind px py (B.drop h.used)).step (mdX h.kind px py (B.drop h.used)).mx (mdX h.kind px py (B.drop h.used)).my (bdX (aL h.kind) (cds (4 * (mdX h.kind px py (B.drop h.used)).pat + h.chr)) (B.drop h.used) (mdX h.kind px py (B.drop h.used)).used).1, 0,
   h.used+(bdX (aL h.kind) (cds (4*(mdX h.kind px py (B.drop h.used)).pat+h.chr)) (B.drop h.used) (mdX h.kind px py (B.drop h.used)).used).2.2)
def jb(b:Bool)(px py:Int)(B:List Int):Cel×Int×Nat:=Dc px py B (hdX b 65 0 B)
theorem Ay(b:Bool)(B:List Int)(h:(mbN b B).2.2.1≠0):(mbN b B).1=0∧(mbN b B).2.1=0∧(mbN b B).2.2.2=0:=by
 unfold mbN Mb.mbX at h ⊢;generalize dB (Mb.lq b) (B.map cn) []=y at *;obtain⟨i,e,c⟩:=y;simp only at h ⊢;by_cases h1:e=0
 ·rw[if_pos h1]at h ⊢;by_cases h2:(i+(if b=true then 0 else 12))/4=2
  ·rw[if_pos h2];exact⟨rfl,rfl,rfl⟩
  ·rw[if_neg h2]at h;exact absurd rfl h
 ·rw[if_neg h1];exact⟨rfl,rfl,rfl⟩
theorem El(b:Bool)(B:List Int):(mbN b B).2.2.2≤B.length:=by
 have hu:=nN (Mb.lq b) (B.map cn) [];unfold mbN Mb.mbX;generalize dB (Mb.lq b) (B.map cn) []=y at *;obtain⟨i,e,c⟩:=y;simp only at hu ⊢;by_cases h1:e=0
 ·rw[if_pos h1];by_cases h2:(i+(if b=true then 0 else 12))/4=2
  ·rw[if_pos h2];exact Nat.zero_le _
  ·rw[if_neg h2];simpa using hu h1
 ·rw[if_neg h1];exact Nat.zero_le _
theorem EH(b:Bool)(B:List Int):(cbN b B).2.2≤B.length:=by
 have hu:=nN Cb.cbR (B.map cn) [];unfold cbN Cb.cbX;split
 ·rename_i h1;simpa using hu h1
 ·exact Nat.zero_le _
theorem Ef{B:List Int}(hB:∀b∈B,b=0∨b=1):Mv.Same (Mv.mt B 0 1) (dB Mv.lQ (B.map cn) []):=by
 have h2:=Mv.Dv 14 _ _ Mv.H7 B hB
 rwa [Mv.Aq]at h2
theorem Ap{B:List Int}(hB:∀b∈B,b=0∨b=1):(mvN B).2.2≤B.length:=by
 have hs:=Ef hB;have hu:=nN Mv.lQ (B.map cn) [];unfold mvN;split
 ·rename_i h1;rw[hs.1]at h1 ⊢;simpa using hu h1
 ·exact Nat.zero_le _
theorem IW(B:List Int):(stN B).2.2≤B.length:=by
 unfold stN stX;split
 ·exact Nat.zero_le _
 ·simp only;omega
theorem LC(intra c:Bool)(s:List UInt8)(p:Nat)(hp:p≤8*s.length):p+(blX intra c (aG s p)).2.2.2≤8*s.length:=by
 have hl:=dN s p;have hd:=KY (nB ((aG s p).take 8)) (aG s p).length;have h0:p+(dc0 intra (aG s p)).2.2≤8*s.length:=by
  unfold dc0;split
  ·omega
  ·simpa using hp
 have he:=AZ 66 s (p+(dc0 intra (aG s p)).2.2) (frm intra:Nat) h0;rw[←dM]at he;unfold blX;split
 ·simpa using hp
 ·split
  ·split
   ·simpa using hp
   ·simp only;omega
  ·exact h0
end Ci
namespace Ci
open Go Bt Tc Co Bl
attribute [local irreducible] aa ACalls
variable {gl:List (Nat×List D)}
noncomputable abbrev gB:List (Nat×List D):=[(0,gl0),(3,gl3),(1,gl1),(2,gl2)]
theorem R5:∀p∈Mb.gsp,p∈gB:=by simp[Mb.gsp,gB]
theorem FY:∀p∈gtc,p∈gB:=by simp[gtc,gB]
theorem R7:∀p∈[(0,gl0)],p∈gB:=by simp[gB]
attribute [local irreducible] nB aG
theorem Q7(s:List UInt8)(p:Nat)(hs:s.length≤1000000)(hp:p≤8*s.length):ACalls (cxg gl) 294 [.ptr 0 0] [Rd s p]
  (fun r H=>r = .cH [I (stN (aG s p)).1,I (stN (aG s p)).2.1]∧H=[Rd s ((p+(stN (aG s p)).2.2:Nat):Int)]):=by
 have tk:=jg (gl:=gl) s p 2 (by omega) hp (by omega);have hBl:=dN s p;unfold pkN tkN at tk;unfold stN stX;rw[hBl];by_cases h:8*s.length<p+2
 ·rw[if_pos h,if_pos h]at tk;rw[if_pos (by omega)];refine ACalls.en Tryz.func294 Tryz.ntmps294 ?_;repeat' (first|refine aa.aF ?_|refine aa.bh true ?_|refine aa.aj [0] (tk) ?_|refine aa.ah ?_|refine aa.ae ?_|refine aa.aB ?_|refine aa.ak ?_|intro _|refine aa.aA ?_)
  all_goals exact Tn
 ·rw[if_neg h,if_neg h]at tk;rw[if_neg (by omega)];have v01:=mR 2 _ (take_len s p 2 (by omega)) (jf s p 2);generalize nB ((aG s p).take 2)=v at *;by_cases h2:2≤v
  ·rw[if_pos h2];refine ACalls.en Tryz.func294 Tryz.ntmps294 ?_;repeat' (first|refine aa.aF ?_|refine aa.bh true ?_|refine aa.aj [0] (tk) ?_|refine aa.ah ?_|refine aa.ae ?_|refine aa.aB ?_|refine aa.ak ?_|intro _|refine aa.aA ?_)
   all_goals exact Tn
  ·rw[if_neg h2];refine ACalls.en Tryz.func294 Tryz.ntmps294 ?_;repeat' (first|refine aa.aF ?_|refine aa.bh true ?_|refine aa.aj [0] (tk) ?_|refine aa.ah ?_|refine aa.ae ?_|refine aa.aB ?_|refine aa.ak ?_|intro _|refine aa.aA ?_)
   all_goals exact Tn
theorem OT(b:Bool)(s:List UInt8)(p:Nat)(hs:s.length≤1000000)(hp:p≤8*s.length):ACalls (cxg gB) 291 [.ptr 0 0,B b] [Rd s p]
  (fun r H=>r = .cH [I (mbN b (aG s p)).1,I (mbN b (aG s p)).2.1,I (mbN b (aG s p)).2.2.1]∧H=[Rd s ((p+(mbN b (aG s p)).2.2.2:Nat):Int)]):=by
 have h:=(Mb.JU b s p hs hp).more R5;have he:=Ay b (aG s p);have e:Mb.D9 p (mbN b (aG s p))=p+(mbN b (aG s p)).2.2.2:=by
  unfold Mb.D9;split
  ·rfl
  ·rename_i h1;rw[(he h1).2.2];rfl
 rw[←e];exact h
theorem SB(b:Bool)(s:List UInt8)(p:Nat)(hs:s.length≤1000000)(hp:p≤8*s.length):ACalls (cxg gl) 292 [.ptr 0 0,B b] [Rd s p]
  (fun r H=>r = .cH [I (cbN b (aG s p)).1,I (cbN b (aG s p)).2.1]∧H=[Rd s ((p+(cbN b (aG s p)).2.2:Nat):Int)]):=by
 have h:=Cb.NU (gl:=gl) b s p hs hp;have e:Px.Ae p (Cb.cbX b ((aG s p).map cn))=p+(cbN b (aG s p)).2.2:=by
  unfold Px.Ae cbN;simp only;split<;>rfl
 rw[e]at h;exact h
theorem RJ(s:List UInt8)(p:Nat)(hs:s.length≤1000000)(hp:p≤8*s.length):ACalls (cxg gB) 295 [.ptr 0 0] [Rd s p]
  (fun r H=>r = .cH [I (mvN (aG s p)).1,I (mvN (aG s p)).2.1]∧H=[Rd s ((p+(mvN (aG s p)).2.2:Nat):Int)]):=by
 have h:=(Mv.M4 s p hs hp).more R7;have e:Mv.JP p (Mv.mt (aG s p) 0 1)=p+(mvN (aG s p)).2.2:=by
  unfold Mv.JP mvN;simp only;split<;>rfl
 rw[e]at h;exact h
theorem SF(s:List UInt8)(p:Nat)(intra coded:Bool)(hs:s.length≤1000000)(hp:p≤8*s.length):ACalls (cxg gB) 296 [.ptr 0 0,B intra,B coded] [Rd s p]
  (fun r H=>r = .cH [I (blX intra coded (aG s p)).1, .d (.sl 3 (bS (blX intra coded (aG s p)).2.1)),I (blX intra coded (aG s p)).2.2.1]∧H=[Rd s ((p+(blX intra coded (aG s p)).2.2.2:Nat):Int)]):=(Ly s p intra coded hs hp).more FY
end Ci
namespace Ci
open Go Bt Tc Co Bl
attribute [local irreducible] aa ACalls
variable {gl:List (Nat×List D)}
abbrev Rr(i:Nat)(e:Int):aN := .cells [.ptr i 0,I e]
abbrev N7(st:Int)(sk:Bool)(ki:Int):List AV:=[I st,B sk,I ki,I 0,I 0,I 0,I 0,I 0,I 0,I 0,I 0,I 0, .d .aU, .d .aU, .d .aU, .d .aU, .d .aU, .d .aU]
theorem ND(f:Nat)(n:Int)(s:List UInt8)(p:Nat)(h:8*s.length≤p):hdX true (f+1) n (aG s p)=⟨n,false,0,0,2,0⟩:=by
 rw[lX s p h];rfl
theorem NC(f:Nat)(n:Int)(s:List UInt8)(p:Nat)(h:p<8*s.length)(h1:fq s (p:Int)=1):hdX true (f+1) n (aG s p)=⟨n,true,0,0,0,1⟩:=by
 rw[jd s p h,hdX,if_pos rfl,if_neg (by simp),if_pos (by simpa using h1)]
theorem Kj(f:Nat)(n:Int)(s:List UInt8)(p:Nat)(h:p<8*s.length)(h1:fq s (p:Int)≠1):hdX true (f+1) n (aG s p)=hdK n 1 (mbN true (aG s (p+1))) (hdX true f (n+1) (aG s (p+1+(mbN true (aG s (p+1))).2.2.2))):=by
 have e:=jd s p h;rw[hdX,if_pos rfl,if_neg (by rw[e];simp),if_neg (by rw[e];simpa using h1),dM,dM,←Nat.add_assoc]
theorem RZ(f:Nat)(n:Int)(s:List UInt8)(p:Nat):hdX false (f+1) n (aG s p)=hdK n 0 (mbN false (aG s p)) (hdX false f (n+1) (aG s (p+(mbN false (aG s p)).2.2.2))):=by
 rw[hdX,if_neg (by decide),dM]
theorem Dl(s:List UInt8)(p:Nat)(hs:s.length≤1000000)(h:p<8*s.length):ACalls (cxg gl) 290 [.ptr 0 0] [Rr 1 0,Rd s p] (fun r H=>r=I (fq s p)∧H=[Rr 1 0,Rd s ((p+1:Nat):Int)]):=by
 have t:=Mv.kK (gl:=gl) s p (by omega) h;refine ACalls.en Tryz.func290 Tryz.ntmps290 ?_;repeat' (first|refine aa.aF ?_|refine aa.bh true ?_|refine aa.aj [1] (t) ?_|refine aa.ak ?_|refine aa.aD ?_|intro _|refine aa.aA ?_)
 all_goals exact Tp
theorem LF(s:List UInt8)(p:Nat)(hs:s.length≤1000000)(h:p=8*s.length):ACalls (cxg gl) 290 [.ptr 0 0] [Rr 1 0,Rd s p] (fun r H=>r=I 0∧H=[Rr 1 2,Rd s p]):=by
 have t:=Mv.nH (gl:=gl) s p (by omega) h;refine ACalls.en Tryz.func290 Tryz.ntmps290 ?_;repeat' (first|refine aa.aF ?_|refine aa.bh true ?_|refine aa.aj [1] (t) ?_|refine aa.ak ?_|refine aa.aD ?_|intro _|refine aa.aA ?_)
 all_goals exact Tp
def hdA(q:Nat)(h:HdR):HdR:={ h with used:=q+h.used }
theorem R3(h:HdR):hdA 0 h=h:=by
 cases h;simp[hdA]
attribute [local irreducible] mbN aG fq hdX
theorem NY(b:Bool)(s:List UInt8)(p:Nat)(hs:s.length≤1000000)(hp:p≤8*s.length):ACalls (cxg gB) 266 [.ptr 0 0,B b, .ptr 1 0] [Rr 2 0, .cells (N7 0 false 0),Rd s p]
  (fun r H=>r = .cH [I (hdX b 65 0 (aG s p)).chr,B (decide ((hdX b 65 0 (aG s p)).err=0)&&!(hdX b 65 0 (aG s p)).skip)]∧H=[Rr 2 (hdX b 65 0 (aG s p)).err, .cells (N7 (hdX b 65 0 (aG s p)).stuff (hdX b 65 0 (aG s p)).skip (hdX b 65 0 (aG s p)).kind),Rd s ((p+(hdX b 65 0 (aG s p)).used:Nat):Int)]):=by
 have hle:=fun q=>El b (aG s q)
 generalize hh0:hdX b 65 0 (aG s p)=h at *;refine ACalls.en Tryz.func266 Tryz.ntmps266 ?_;repeat (first|refine aa.aF ?_|refine aa.bh true ?_|refine aa.ah ?_|refine aa.ae ?_|refine aa.aB ?_|refine aa.ak ?_|refine aa.aD ?_|refine aa.au ?_|refine aa.aQ ?_|refine aa.aC ?_)
 refine aa.weak (env':=[(2, .ptr 1 0),(1,B b),(0, .ptr 0 0)]) ⟨rfl,rfl,rfl,trivial⟩ ?_
 refine aa.loop (fun m env H=>∃(f:Nat) (n:Int) (q:Nat),m=f∧(0≤n∧n≤64∧64-n<f)∧p+q≤8*s.length∧hdA q (hdX b f n (aG s (p+q)))=h∧env=[(2, .ptr 1 0),(1,B b),(0, .ptr 0 0)] ∧
  H=[Rr 2 0, .cells (N7 n false 0),Rd s ((p+q:Nat):Int)]) 65
  ⟨65,0,0,rfl,by omega,by omega,by rw[Nat.add_zero,hh0];exact R3 h,rfl,rfl⟩ ?_
 rintro m env H ⟨f,n,q,rfl,hn,hq,hh,rfl,rfl⟩;obtain⟨f,rfl⟩:∃g,m=g+1:=⟨m-1,by omega⟩;cases b with
 | false =>
  have mt:=OT false s (p+q) hs hq;have ml:=hle (p+q);have me:=Ay false (aG s (p+q));rw[dN]at ml;rw[RZ]at hh;generalize mbN false (aG s (p+q))=x at *;obtain⟨k,ch,e,u⟩:=x;simp only at mt ml me hh;unfold hdK at hh;simp only at hh;by_cases he:e=0
  ·subst he;rw[if_neg (by simp)]at hh;by_cases h5:k=5
   ·subst h5;rw[if_neg (by simp)]at hh;by_cases h64:n=64
    ·subst h64;rw[if_pos rfl]at hh;subst hh;simp only[hdA,Nat.zero_add,←Nat.add_assoc];repeat' (first|refine aa.aF ?_|refine aa.bh true ?_|refine aa.aj [2] (mt) ?_|refine aa.ah ?_|refine aa.ae ?_|refine aa.aB ?_|refine aa.ak ?_|refine aa.aD ?_|refine aa.au ?_|refine aa.aQ ?_|refine aa.aC ?_|intro _|refine aa.aA ?_|refine aa.aP ?_|refine aa.aJ ?_)
     all_goals exact Tn
    ·rw[if_neg h64]at hh;repeat' (first|refine aa.aF ?_|refine aa.bh true ?_|refine aa.aj [2] (mt) ?_|refine aa.ah ?_|refine aa.ae ?_|refine aa.aB ?_|refine aa.ak ?_|refine aa.aD ?_|refine aa.au ?_|refine aa.aQ ?_|refine aa.aC ?_|intro _|refine aa.aA ?_|refine aa.aP ?_|refine aa.aJ ?_)
     all_goals first
      |exact aa.round [(2, .ptr 1 0),(1,B false),(0, .ptr 0 0)] f (by omega) ⟨rfl,rfl,rfl,trivial⟩ ⟨f,n+1,q+u,rfl,by omega,by omega,by rw[←hh];simp only[hdA,Nat.zero_add,Nat.add_assoc],rfl,by simp only[Nat.add_assoc]⟩
      |omega
   ·rw[if_pos h5]at hh;subst hh;simp only[hdA,Nat.zero_add,←Nat.add_assoc];repeat' (first|refine aa.aF ?_|refine aa.bh true ?_|refine aa.aj [2] (mt) ?_|refine aa.ah ?_|refine aa.ae ?_|refine aa.aB ?_|refine aa.ak ?_|refine aa.aD ?_|refine aa.au ?_|refine aa.aQ ?_|refine aa.aC ?_|intro _|refine aa.aA ?_|refine aa.aP ?_|refine aa.aJ ?_)
    all_goals exact Tn
  ·rw[if_pos he]at hh;obtain⟨_,_,rfl⟩:=me he;subst hh;simp only[hdA,Nat.add_zero];rw[Nat.add_zero]at mt;repeat' (first|refine aa.aF ?_|refine aa.bh true ?_|refine aa.aj [2] (mt) ?_|refine aa.ah ?_|refine aa.ae ?_|refine aa.aB ?_|refine aa.ak ?_|refine aa.aD ?_|refine aa.au ?_|refine aa.aQ ?_|refine aa.aC ?_|intro _|refine aa.aA ?_|refine aa.aP ?_|refine aa.aJ ?_)
   all_goals first|exact⟨by simp[he],rfl⟩|omega
 | true =>
  rcases Nat.lt_or_ge (p+q) (8*s.length)with hlt|hge
  ·have hb01:=oV s ((p+q:Nat):Int);have bc:=Dl (gl:=gB) s (p+q) hs hlt;by_cases h1:fq s ((p+q:Nat):Int)=1
   ·rw[NC _ _ _ _ hlt h1]at hh;rw[h1]at bc;subst hh;simp only[hdA,←Nat.add_assoc];repeat' (first|refine aa.aF ?_|refine aa.bh true ?_|refine aa.aj [0,2] (bc) ?_|refine aa.ah ?_|refine aa.ae ?_|refine aa.aB ?_|refine aa.ak ?_|refine aa.aD ?_|refine aa.au ?_|refine aa.aQ ?_|refine aa.aC ?_|intro _|refine aa.aA ?_|refine aa.aP ?_|refine aa.aJ ?_)
    all_goals exact Tn
   ·rw[Kj _ _ _ _ hlt h1]at hh;rw[show fq s ((p+q:Nat):Int)=0 by omega]at bc;have mt:=OT true s (p+q+1) hs (by omega);have ml:=hle (p+q+1);have me:=Ay true (aG s (p+q+1));rw[dN]at ml;generalize mbN true (aG s (p+q+1))=x at *;obtain⟨k,ch,e,u⟩:=x;simp only at mt ml me hh;unfold hdK at hh;simp only at hh;by_cases he:e=0
    ·subst he;rw[if_neg (by simp)]at hh;by_cases h5:k=5
     ·subst h5;rw[if_neg (by simp)]at hh;by_cases h64:n=64
      ·subst h64;rw[if_pos rfl]at hh;subst hh;simp only[hdA,←Nat.add_assoc];repeat' (first|refine aa.aF ?_|refine aa.bh true ?_|refine aa.aj [0,2] (bc) ?_|refine aa.aj [2] (mt) ?_|refine aa.ah ?_|refine aa.ae ?_|refine aa.aB ?_|refine aa.ak ?_|refine aa.aD ?_|refine aa.au ?_|refine aa.aQ ?_|refine aa.aC ?_|intro _|refine aa.aA ?_|refine aa.aP ?_|refine aa.aJ ?_)
       all_goals exact Tn
      ·rw[if_neg h64]at hh;repeat' (first|refine aa.aF ?_|refine aa.bh true ?_|refine aa.aj [0,2] (bc) ?_|refine aa.aj [2] (mt) ?_|refine aa.ah ?_|refine aa.ae ?_|refine aa.aB ?_|refine aa.ak ?_|refine aa.aD ?_|refine aa.au ?_|refine aa.aQ ?_|refine aa.aC ?_|intro _|refine aa.aA ?_|refine aa.aP ?_|refine aa.aJ ?_)
       all_goals first
        |exact aa.round [(2, .ptr 1 0),(1,B true),(0, .ptr 0 0)] f (by omega) ⟨rfl,rfl,rfl,trivial⟩ ⟨f,n+1,q+1+u,rfl,by omega,by omega,by rw[←hh];simp only[hdA,Nat.add_assoc],rfl,by simp only[Nat.add_assoc]⟩
        |omega
     ·rw[if_pos h5]at hh;subst hh;simp only[hdA,←Nat.add_assoc];repeat' (first|refine aa.aF ?_|refine aa.bh true ?_|refine aa.aj [0,2] (bc) ?_|refine aa.aj [2] (mt) ?_|refine aa.ah ?_|refine aa.ae ?_|refine aa.aB ?_|refine aa.ak ?_|refine aa.aD ?_|refine aa.au ?_|refine aa.aQ ?_|refine aa.aC ?_|intro _|refine aa.aA ?_|refine aa.aP ?_|refine aa.aJ ?_)
      all_goals exact Tn
    ·rw[if_pos he]at hh;obtain⟨_,_,rfl⟩:=me he;subst hh;simp only[hdA,←Nat.add_assoc];rw[Nat.add_zero]at mt;repeat' (first|refine aa.aF ?_|refine aa.bh true ?_|refine aa.aj [0,2] (bc) ?_|refine aa.aj [2] (mt) ?_|refine aa.ah ?_|refine aa.ae ?_|refine aa.aB ?_|refine aa.ak ?_|refine aa.aD ?_|refine aa.au ?_|refine aa.aQ ?_|refine aa.aC ?_|intro _|refine aa.aA ?_|refine aa.aP ?_|refine aa.aJ ?_)
     all_goals first|exact⟨by simp[he],rfl⟩|omega
  ·have be:=LF (gl:=gB) s (p+q) hs (by omega);rw[ND _ _ _ _ hge]at hh;subst hh;simp only[hdA,Nat.add_zero];repeat' (first|refine aa.aF ?_|refine aa.bh true ?_|refine aa.aj [0,2] (be) ?_|refine aa.ah ?_|refine aa.ae ?_|refine aa.aB ?_|refine aa.ak ?_|refine aa.aD ?_|refine aa.au ?_|refine aa.aQ ?_|refine aa.aC ?_|intro _|refine aa.aA ?_|refine aa.aP ?_|refine aa.aJ ?_)
   all_goals exact Tn
end Ci
namespace Ci
open Go Bt Tc Co Bl
attribute [local irreducible] aa ACalls aW aK bP
variable {gl:List (Nat×List D)}
abbrev QJ(st:Int)(ki sp mx my:Int):List AV:=[I st,B false,I ki,I sp,I mx,I my,I 0,I 0,I 0,I 0,I 0,I 0, .d .aU, .d .aU, .d .aU, .d .aU, .d .aU, .d .aU]
theorem Da(k:Int):ACalls (cxg gl) 293 [I k] [] (fun r H=>r=B (aL k)∧H=[]):=by
 by_cases h:k=3∨k=4
 ·rw[show aL k=true from decide_eq_true h];rcases h with rfl|rfl;all_goals
   refine ACalls.en Tryz.func293 Tryz.ntmps293 ?_;repeat' (first|refine aa.aF ?_|refine aa.bh true ?_|refine aa.au ?_|refine aa.cf ?_|refine aa.bg ?_|refine aa.aC ?_|intro _|refine aa.aA ?_)
   all_goals exact Tp
 ·rw[show aL k=false from decide_eq_false h];refine ACalls.en Tryz.func293 Tryz.ntmps293 ?_;repeat' (first|refine aa.aF ?_|refine aa.bh true ?_|refine aa.au ?_|refine aa.cf ?_|refine aa.bg ?_|refine aa.aC ?_|intro _|refine aa.aA ?_)
  all_goals first|exact⟨rfl,rfl⟩|exact⟨congrArg B (by simp only[bF];omega),rfl⟩
theorem PU(B:List Int)(hB:∀x∈B,x=0∨x=1): -32≤(mvN B).1∧(mvN B).1≤31:=by
 have hs:=Ef hB;have hb:=Mv.mP Mv.lQ (B.map cn) [];rw[Mv.yS]at hb;unfold mvN;obtain⟨a1,a2,a3⟩:=hs;by_cases h:(Mv.mt B 0 1).2.1=0
 ·have e:=a2 h;have hb:=hb (by rw[←a1];exact h);simp only;omega
 ·have e:=a3 h;simp only;omega
theorem OO{B:List Int}(h:(mvN B).2.1≠0):(mvN B).2.2=0:=by
 unfold mvN at h ⊢;exact if_neg h
theorem SC{b:Bool}{B:List Int}(h:(cbN b B).2.1≠0):(cbN b B).2.2=0:=by
 unfold cbN at h ⊢;exact if_neg h
theorem OE{B:List Int}(h:(stN B).2.1≠0):(stN B).1=0∧(stN B).2.2=0:=by
 unfold stN stX at h ⊢;split
 ·exact⟨rfl,rfl⟩
 ·rename_i h1;rw[if_neg h1]at h;exact absurd rfl h
attribute [local irreducible] mbN cbN mvN stN aG bH
theorem QD(st k px py:Int)(s:List UInt8)(p:Nat)(hk:k=0∨k=1∨k=3∨k=4)(hpx:I64 px)(hpy:I64 py)(hs:s.length≤1000000)(hp:p≤8*s.length):
  ACalls (cxg gB) 267 [.ptr 0 0, .ptr 1 0, .d (.agg [In px,In py])] [Rr 2 0, .cells (N7 st false k),Rd s p]
  (fun r H=>r=I (mdX k px py (aG s p)).pat∧H=[Rr 2 (mdX k px py (aG s p)).err, .cells (QJ st k (mdX k px py (aG s p)).step (mdX k px py (aG s p)).mx (mdX k px py (aG s p)).my),Rd s ((p+(mdX k px py (aG s p)).used:Nat):Int)]):=by
 have ic:=Da (gl:=gB) k;have cb:=SB (gl:=gB) (aL k) s p hs hp;have cl:=EH (aL k) (aG s p);have sl:=IW;have w1:=lY (gl:=gB) px hpx;have w2:=lY (gl:=gB) py hpy;have wb1:=iA px;have wb2:=iA py;have ww:=fun n h=>lY (gl:=gB) n h
 have hBl:=dN s;have stc:=fun q hq=>Q7 (gl:=gB) s q hs hq
 have mvc:=fun q hq=>RJ s q hs hq
 have mvl:=fun q=>Ap (fJ s q)
 have mvb:=fun q=>PU _ (fJ s q)
 unfold mdX mdM;simp only[dM];rw[hBl]at cl;have cu:=SC (b:=aL k) (B:=aG s p);generalize hX:cbN (aL k) (aG s p)=x at *;obtain⟨pat,e,u⟩:=x;simp only at cb cl cu ⊢;by_cases he:e=0
 ·subst he;simp only[ne_eq,not_true_eq_false,if_false];rcases hk with rfl|rfl|rfl|rfl
  ·have hI:aL 0=false:=rfl;have hS:dw 0=false:=rfl;rw[hI]at ic cb;simp only[hI,hS,Bool.false_eq_true,if_false];have mv1:=fun h=>mvc (p+u) h
   have ml1:=mvl (p+u);have mb1:=mvb (p+u);rw[hBl]at ml1;have m1:=mv1 (by omega);have mu1:=OO (B:=aG s (p+u));generalize mvN (aG s (p+u))=y at *;obtain⟨d1,e1,u1⟩:=y;simp only at m1 ml1 mb1 mu1 ⊢;have v1:=ww (bH px+d1) (by omega);by_cases h1:e1=0
   ·subst h1;simp only[not_true_eq_false,if_false];simp only[←Nat.add_assoc];have m2:=mvc ((p+u)+u1) (by omega);have mb2:=mvb ((p+u)+u1);generalize mvN (aG s ((p+u)+u1))=z at *;obtain⟨d2,e2,u2⟩:=z;simp only at m2 mb2 ⊢;have v2:=ww (bH py+d2) (by omega);unfold wr;refine ACalls.en Tryz.func267 Tryz.ntmps267 ?_;repeat' (first|refine aa.aF ?_|(apply aa.fw [0,1,2,3,4,5,6,7,8,9,10,11,12,13,14] 15 9;rfl)|(apply aa.fw [0,1,2,3,4,5,6,7,8,9,10,11,12] 13 12;rfl)|refine aW.cg ?_|refine aW.fV ?_|(apply aW.go)|refine aK.cL ?_|refine aK.cg ?_|refine aK.bO (ic) ?_|refine aK.bO (w1) ?_|refine aK.bO (w2) ?_|refine aK.bO (v1) ?_|refine aK.bO (v2) ?_|refine aK.gH ?_|(apply aK.iC;rfl;kernel_rfl)|refine bP.gH ?_|(apply aK.back)|(exact aa.fg)|(refine aa.bv ?_;rfl)|refine aa.bh true ?_|refine aa.aj [2] (cb) ?_|refine aa.aj [2] (m1) ?_|refine aa.aj [2] (m2) ?_|refine aa.av (ic) ?_|refine aa.av (w1) ?_|refine aa.av (w2) ?_|refine aa.av (v1) ?_|refine aa.av (v2) ?_|refine aa.bC ?_|refine aa.ah ?_|refine aa.ae ?_|refine aa.aB ?_|refine aa.ak ?_|refine aa.aM ?_|refine aa.aD ?_|refine aa.au ?_|refine aa.cf ?_|refine aa.bg ?_|refine aa.aC ?_|apply aa.di|apply aa.lpU|intro _|refine aa.aA ?_)
    all_goals exact Tn
   ·rw[if_pos h1];unfold wr;obtain rfl:=mu1 h1;rw[Nat.add_zero]at m1;simp only[←Nat.add_assoc];refine ACalls.en Tryz.func267 Tryz.ntmps267 ?_;repeat' (first|refine aa.aF ?_|(apply aa.fw [0,1,2,3,4,5,6,7,8,9,10,11,12,13,14] 15 9;rfl)|(apply aa.fw [0,1,2,3,4,5,6,7,8,9,10,11,12] 13 12;rfl)|refine aW.cg ?_|refine aW.fV ?_|(apply aW.go)|refine aK.cL ?_|refine aK.cg ?_|refine aK.bO (ic) ?_|refine aK.bO (w1) ?_|refine aK.bO (w2) ?_|refine aK.bO (v1) ?_|refine aK.gH ?_|(apply aK.iC;rfl;kernel_rfl)|refine bP.gH ?_|(apply aK.back)|(exact aa.fg)|(refine aa.bv ?_;rfl)|refine aa.bh true ?_|refine aa.aj [2] (cb) ?_|refine aa.aj [2] (m1) ?_|refine aa.av (ic) ?_|refine aa.av (w1) ?_|refine aa.av (w2) ?_|refine aa.av (v1) ?_|refine aa.bC ?_|refine aa.ah ?_|refine aa.ae ?_|refine aa.aB ?_|refine aa.ak ?_|refine aa.aM ?_|refine aa.aD ?_|refine aa.au ?_|refine aa.cf ?_|refine aa.bg ?_|refine aa.aC ?_|apply aa.di|apply aa.lpU|intro _|refine aa.aA ?_)
    all_goals exact Tn
  ·have hI:aL 1=false:=rfl;have hS:dw 1=true:=rfl;rw[hI]at ic cb;simp only[hI,hS,Bool.false_eq_true,if_false,if_true];have st1:=stc (p+u) (by omega);have sl1:=sl (aG s (p+u));have su1:=OE (B:=aG s (p+u));rw[hBl]at sl1;generalize stN (aG s (p+u))=t at *;obtain⟨sp,se,su⟩:=t;simp only at st1 sl1 su1 ⊢;by_cases hse:se=0
   ·subst hse;simp only[not_true_eq_false,if_false];simp only[←Nat.add_assoc];have mv1:=fun h=>mvc (p+u+su) h
    have ml1:=mvl (p+u+su);have mb1:=mvb (p+u+su);rw[hBl]at ml1;have m1:=mv1 (by omega);have mu1:=OO (B:=aG s (p+u+su));generalize mvN (aG s (p+u+su))=y at *;obtain⟨d1,e1,u1⟩:=y;simp only at m1 ml1 mb1 mu1 ⊢;have v1:=ww (bH px+d1) (by omega);by_cases h1:e1=0
    ·subst h1;simp only[not_true_eq_false,if_false];simp only[←Nat.add_assoc];have m2:=mvc ((p+u+su)+u1) (by omega);have mb2:=mvb ((p+u+su)+u1);generalize mvN (aG s ((p+u+su)+u1))=z at *;obtain⟨d2,e2,u2⟩:=z;simp only at m2 mb2 ⊢;have v2:=ww (bH py+d2) (by omega);unfold wr;refine ACalls.en Tryz.func267 Tryz.ntmps267 ?_;repeat' (first|refine aa.aF ?_|(apply aa.fw [0,1,2,3,4,5,6,7,8,9,10,11,12,13,14] 15 9;rfl)|(apply aa.fw [0,1,2,3,4,5,6,7,8,9,10,11,12] 13 12;rfl)|refine aW.cg ?_|refine aW.fV ?_|(apply aW.go)|refine aK.cL ?_|refine aK.cg ?_|refine aK.bO (ic) ?_|refine aK.bO (w1) ?_|refine aK.bO (w2) ?_|refine aK.bO (v1) ?_|refine aK.bO (v2) ?_|refine aK.gH ?_|(apply aK.iC;rfl;kernel_rfl)|refine bP.gH ?_|(apply aK.back)|(exact aa.fg)|(refine aa.bv ?_;rfl)|refine aa.bh true ?_|refine aa.aj [2] (cb) ?_|refine aa.aj [2] (st1) ?_|refine aa.aj [2] (m1) ?_|refine aa.aj [2] (m2) ?_|refine aa.av (ic) ?_|refine aa.av (w1) ?_|refine aa.av (w2) ?_|refine aa.av (v1) ?_|refine aa.av (v2) ?_|refine aa.bC ?_|refine aa.ah ?_|refine aa.ae ?_|refine aa.aB ?_|refine aa.ak ?_|refine aa.aM ?_|refine aa.aD ?_|refine aa.au ?_|refine aa.cf ?_|refine aa.bg ?_|refine aa.aC ?_|apply aa.di|apply aa.lpU|intro _|refine aa.aA ?_)
     all_goals exact Tn
    ·rw[if_pos h1];unfold wr;obtain rfl:=mu1 h1;rw[Nat.add_zero]at m1;simp only[←Nat.add_assoc];refine ACalls.en Tryz.func267 Tryz.ntmps267 ?_;repeat' (first|refine aa.aF ?_|(apply aa.fw [0,1,2,3,4,5,6,7,8,9,10,11,12,13,14] 15 9;rfl)|(apply aa.fw [0,1,2,3,4,5,6,7,8,9,10,11,12] 13 12;rfl)|refine aW.cg ?_|refine aW.fV ?_|(apply aW.go)|refine aK.cL ?_|refine aK.cg ?_|refine aK.bO (ic) ?_|refine aK.bO (w1) ?_|refine aK.bO (w2) ?_|refine aK.bO (v1) ?_|refine aK.gH ?_|(apply aK.iC;rfl;kernel_rfl)|refine bP.gH ?_|(apply aK.back)|(exact aa.fg)|(refine aa.bv ?_;rfl)|refine aa.bh true ?_|refine aa.aj [2] (cb) ?_|refine aa.aj [2] (st1) ?_|refine aa.aj [2] (m1) ?_|refine aa.av (ic) ?_|refine aa.av (w1) ?_|refine aa.av (w2) ?_|refine aa.av (v1) ?_|refine aa.bC ?_|refine aa.ah ?_|refine aa.ae ?_|refine aa.aB ?_|refine aa.ak ?_|refine aa.aM ?_|refine aa.aD ?_|refine aa.au ?_|refine aa.cf ?_|refine aa.bg ?_|refine aa.aC ?_|apply aa.di|apply aa.lpU|intro _|refine aa.aA ?_)
     all_goals exact Tn
   ·rw[if_pos hse];obtain⟨rfl,rfl⟩:=su1 hse;rw[Nat.add_zero]at st1;refine ACalls.en Tryz.func267 Tryz.ntmps267 ?_;repeat' (first|refine aa.aF ?_|(apply aa.fw [0,1,2,3,4,5,6,7,8,9,10,11,12,13,14] 15 9;rfl)|(apply aa.fw [0,1,2,3,4,5,6,7,8,9,10,11,12] 13 12;rfl)|refine aW.cg ?_|refine aW.fV ?_|(apply aW.go)|refine aK.cL ?_|refine aK.cg ?_|refine aK.bO (ic) ?_|refine aK.gH ?_|(apply aK.iC;rfl;kernel_rfl)|refine bP.gH ?_|(apply aK.back)|(exact aa.fg)|(refine aa.bv ?_;rfl)|refine aa.bh true ?_|refine aa.aj [2] (cb) ?_|refine aa.aj [2] (st1) ?_|refine aa.av (ic) ?_|refine aa.bC ?_|refine aa.ah ?_|refine aa.ae ?_|refine aa.aB ?_|refine aa.ak ?_|refine aa.aM ?_|refine aa.aD ?_|refine aa.au ?_|refine aa.cf ?_|refine aa.bg ?_|refine aa.aC ?_|apply aa.di|apply aa.lpU|intro _|refine aa.aA ?_)
    all_goals exact Tn
  ·have hI:aL 3=true:=rfl;have hS:dw 3=false:=rfl;rw[hI]at ic cb;simp only[hI,hS,if_true,Bool.false_eq_true,if_false];refine ACalls.en Tryz.func267 Tryz.ntmps267 ?_;repeat' (first|refine aa.aF ?_|(apply aa.fw [0,1,2,3,4,5,6,7,8,9,10,11,12,13,14] 15 9;rfl)|(apply aa.fw [0,1,2,3,4,5,6,7,8,9,10,11,12] 13 12;rfl)|refine aW.cg ?_|refine aW.fV ?_|(apply aW.go)|refine aK.cL ?_|refine aK.cg ?_|refine aK.bO (ic) ?_|refine aK.gH ?_|(apply aK.iC;rfl;kernel_rfl)|refine bP.gH ?_|(apply aK.back)|(exact aa.fg)|(refine aa.bv ?_;rfl)|refine aa.bh true ?_|refine aa.aj [2] (cb) ?_|refine aa.av (ic) ?_|refine aa.bC ?_|refine aa.ah ?_|refine aa.ae ?_|refine aa.aB ?_|refine aa.ak ?_|refine aa.aM ?_|refine aa.aD ?_|refine aa.au ?_|refine aa.cf ?_|refine aa.bg ?_|refine aa.aC ?_|apply aa.di|apply aa.lpU|intro _|refine aa.aA ?_)
   all_goals exact Tn
  ·have hI:aL 4=true:=rfl;have hS:dw 4=true:=rfl;rw[hI]at ic cb;simp only[hI,hS,if_true];have st1:=stc (p+u) (by omega);have su1:=OE (B:=aG s (p+u));generalize stN (aG s (p+u))=t at *;obtain⟨sp,se,su⟩:=t;simp only at st1 su1 ⊢;by_cases hse:se=0
   ·subst hse;simp only[not_true_eq_false,if_false,if_true];simp only[←Nat.add_assoc];refine ACalls.en Tryz.func267 Tryz.ntmps267 ?_;repeat' (first|refine aa.aF ?_|(apply aa.fw [0,1,2,3,4,5,6,7,8,9,10,11,12,13,14] 15 9;rfl)|(apply aa.fw [0,1,2,3,4,5,6,7,8,9,10,11,12] 13 12;rfl)|refine aW.cg ?_|refine aW.fV ?_|(apply aW.go)|refine aK.cL ?_|refine aK.cg ?_|refine aK.bO (ic) ?_|refine aK.gH ?_|(apply aK.iC;rfl;kernel_rfl)|refine bP.gH ?_|(apply aK.back)|(exact aa.fg)|(refine aa.bv ?_;rfl)|refine aa.bh true ?_|refine aa.aj [2] (cb) ?_|refine aa.aj [2] (st1) ?_|refine aa.av (ic) ?_|refine aa.bC ?_|refine aa.ah ?_|refine aa.ae ?_|refine aa.aB ?_|refine aa.ak ?_|refine aa.aM ?_|refine aa.aD ?_|refine aa.au ?_|refine aa.cf ?_|refine aa.bg ?_|refine aa.aC ?_|apply aa.di|apply aa.lpU|intro _|refine aa.aA ?_)
    all_goals exact Tn
   ·rw[if_pos hse];obtain⟨rfl,rfl⟩:=su1 hse;rw[Nat.add_zero]at st1;refine ACalls.en Tryz.func267 Tryz.ntmps267 ?_;repeat' (first|refine aa.aF ?_|(apply aa.fw [0,1,2,3,4,5,6,7,8,9,10,11,12,13,14] 15 9;rfl)|(apply aa.fw [0,1,2,3,4,5,6,7,8,9,10,11,12] 13 12;rfl)|refine aW.cg ?_|refine aW.fV ?_|(apply aW.go)|refine aK.cL ?_|refine aK.cg ?_|refine aK.bO (ic) ?_|refine aK.gH ?_|(apply aK.iC;rfl;kernel_rfl)|refine bP.gH ?_|(apply aK.back)|(exact aa.fg)|(refine aa.bv ?_;rfl)|refine aa.bh true ?_|refine aa.aj [2] (cb) ?_|refine aa.aj [2] (st1) ?_|refine aa.av (ic) ?_|refine aa.bC ?_|refine aa.ah ?_|refine aa.ae ?_|refine aa.aB ?_|refine aa.ak ?_|refine aa.aM ?_|refine aa.aD ?_|refine aa.au ?_|refine aa.cf ?_|refine aa.bg ?_|refine aa.aC ?_|apply aa.di|apply aa.lpU|intro _|refine aa.aA ?_)
    all_goals exact Tn
 ·rw[if_pos he];obtain rfl:=cu he;simp only;rcases hk with rfl|rfl|rfl|rfl;all_goals
   refine ACalls.en Tryz.func267 Tryz.ntmps267 ?_;repeat' (first|refine aa.aF ?_|(apply aa.fw [0,1,2,3,4,5,6,7,8,9,10,11,12,13,14] 15 9;rfl)|(apply aa.fw [0,1,2,3,4,5,6,7,8,9,10,11,12] 13 12;rfl)|refine aW.cg ?_|refine aW.fV ?_|(apply aW.go)|refine aK.cL ?_|refine aK.cg ?_|refine aK.bO (ic) ?_|refine aK.gH ?_|(apply aK.iC;rfl;kernel_rfl)|refine bP.gH ?_|(apply aK.back)|(exact aa.fg)|(refine aa.bv ?_;rfl)|refine aa.bh true ?_|refine aa.aj [2] (cb) ?_|refine aa.av (ic) ?_|refine aa.bC ?_|refine aa.ah ?_|refine aa.ae ?_|refine aa.aB ?_|refine aa.ak ?_|refine aa.aM ?_|refine aa.aD ?_|refine aa.au ?_|refine aa.cf ?_|refine aa.bg ?_|refine aa.aC ?_|apply aa.di|apply aa.lpU|intro _|refine aa.aA ?_)
   all_goals exact Tn
end Ci
end Go.Proofs.YtbpednchkndocaaGreatDoor.Av
