/- Cells are read: what is told of bits. Cells are read: steps; the parts' contracts. Cells are read: cellin's head. Cells are read: cellin's middle. -/
import Derived.Test.YtbpednchkndocaaGreatDoorPq2
import Derived.Test.YtbpednchkndocaaGreatDoorCo1
import Derived.Test.YtbpednchkndocaaGreatDoorPq3
import Derived.Test.YtbpednchkndocaaGreatDoorPq11
import Derived.Test.YtbpednchkndocaaGreatDoorPn5
set_option linter.unusedVariables false
set_option linter.unusedSimpArgs false
set_option maxRecDepth 100000
set_option maxHeartbeats 64000000
namespace Go.Proofs.YtbpednchkndocaaGreatDoor.Av
namespace Ci
open Go Bt Tc Co Bl
attribute [local irreducible] aa ACalls
variable {gl:List (Nat×List D)}
def mbN (b:Bool) (B:List Int):Int×Int×Int×Nat:=Mb.mbX b (B.map bM)
def cbN (b:Bool) (B:List Int):Int×Int×Nat:=((Cb.cbX b (B.map bM)).1,(Cb.cbX b (B.map bM)).2.1,if (Cb.cbX b (B.map bM)).2.1=0 then (Cb.cbX b (B.map bM)).2.2 else 0)
def mvN (B:List Int):Int×Int×Nat:=((Mv.mt B 0 1).1,(Mv.mt B 0 1).2.1,if (Mv.mt B 0 1).2.1=0 then (Mv.mt B 0 1).2.2 else 0)
def stX (v:Int) (n:Nat):Int×Int×Nat:=if n<2 then (0,2,0) else (if 2≤v then v - 1 else -1 - v,0,2)
def stN (B:List Int):Int×Int×Nat:=stX (nB (B.take 2)) B.length
structure HdR where
 stuff:Int
 skip:Bool
 kind:Int
 chr:Int
 err:Int
 used:Nat
def hdK (n:Int) (k:Nat) (x:Int×Int×Int×Nat) (y:HdR):HdR :=
 if x.2.2.1≠0 then ⟨n,false,0,0,x.2.2.1,k⟩ else
 if x.1≠5 then ⟨n,false,x.1,x.2.1,0,k+x.2.2.2⟩ else
 if n=64 then ⟨n,false,0,0,13,k+x.2.2.2⟩ else
 { y with used:=k+x.2.2.2+y.used }
def hdX (b:Bool):Nat→Int→List Int→HdR
  |0,n,_=>⟨n,false,0,0,13,0⟩
  |f+1,n,B =>
    if b=true then
      (if B=[] then ⟨n,false,0,0,2,0⟩ else if B.getD 0 0=1 then ⟨n,true,0,0,0,1⟩ else
       hdK n 1 (mbN b (B.drop 1)) (hdX b f (n+1) (B.drop (1+(mbN b (B.drop 1)).2.2.2))))
    else hdK n 0 (mbN b B) (hdX b f (n+1) (B.drop (mbN b B).2.2.2))
structure MdR where
 pat:Int
 step:Int
 mx:Int
 my:Int
 err:Int
 used:Nat
def wr (p d:Int):Int:=cW (cW p+d)
def mdM (k px py:Int) (B:List Int) (pat step:Int) (q:Nat):MdR :=
 if bf k=true then ⟨pat,step,0,0,0,q⟩ else
 if (mvN (B.drop q)).2.1≠0 then ⟨pat,step,wr px (mvN (B.drop q)).1,0,(mvN (B.drop q)).2.1,q⟩ else
 ⟨pat,step,wr px (mvN (B.drop q)).1,wr py (mvN (B.drop (q+(mvN (B.drop q)).2.2))).1,(mvN (B.drop (q+(mvN (B.drop q)).2.2))).2.1,q+(mvN (B.drop q)).2.2+(mvN (B.drop (q+(mvN (B.drop q)).2.2))).2.2⟩
def mdX (k px py:Int) (B:List Int):MdR :=
  if (cbN (bf k) B).2.1≠0 then ⟨(cbN (bf k) B).1,0,0,0,(cbN (bf k) B).2.1,0⟩ else
  if dP k=true then
    (if (stN (B.drop (cbN (bf k) B).2.2)).2.1≠0 then ⟨(cbN (bf k) B).1,(stN (B.drop (cbN (bf k) B).2.2)).1,0,0,(stN (B.drop (cbN (bf k) B).2.2)).2.1,(cbN (bf k) B).2.2⟩ else
     mdM k px py B (cbN (bf k) B).1 (stN (B.drop (cbN (bf k) B).2.2)).1 ((cbN (bf k) B).2.2+(stN (B.drop (cbN (bf k) B).2.2)).2.2))
  else mdM k px py B (cbN (bf k) B).1 0 (cbN (bf k) B).2.2
def bv (v:Int) (i:Nat):Bool:=decide (v / 2^(5 - i)%2=1)
def bdX (intra:Bool):List Bool→List Int→Nat→List (Int×List Ev)×Int×Nat
 |[],_,q=>([],0,q)
 |c::cs,B,q =>
  if (blX intra c (B.drop q)).2.2.1≠0 then ([],(blX intra c (B.drop q)).2.2.1,q) else
  (((blX intra c (B.drop q)).1,(blX intra c (B.drop q)).2.1)::(bdX intra cs B (q+(blX intra c (B.drop q)).2.2.2)).1,(bdX intra cs B (q+(blX intra c (B.drop q)).2.2.2)).2)
def cds (v:Int):List Bool:=[bv v 0,bv v 1,bv v 2,bv v 3,bv v 4,bv v 5]
def lC:Cel:=⟨0,false,0,0,0,0,0,0,0,0,0,0,[],[],[],[],[],[]⟩
def jB (st k sp mx my:Int):List (Int×List Ev)→Cel
 |[b0,b1,b2,b3,b4,b5]=>⟨st,false,k,sp,mx,my,b0.1,b1.1,b2.1,b3.1,b4.1,b5.1,b0.2,b1.2,b2.2,b3.2,b4.2,b5.2⟩
 |_=>lC
def kH (px py:Int) (B:List Int) (h:HdR):Cel×Int×Nat :=
  if h.err≠0 then (lC,h.err,0) else
  if h.skip=true then (⟨h.stuff,true,0,0,0,0,0,0,0,0,0,0,[],[],[],[],[],[]⟩,0,h.used) else
  if (mdX h.kind px py (B.drop h.used)).err≠0 then (lC,(mdX h.kind px py (B.drop h.used)).err,0) else
  if (bdX (bf h.kind) (cds (4*(mdX h.kind px py (B.drop h.used)).pat+h.chr)) (B.drop h.used) (mdX h.kind px py (B.drop h.used)).used).2.1≠0 then (lC,(bdX (bf h.kind) (cds (4*(mdX h.kind px py (B.drop h.used)).pat+h.chr)) (B.drop h.used) (mdX h.kind px py (B.drop h.used)).used).2.1,0) else
  (jB h.stuff h.kind (mdX h.kind px py (B.drop h.used)).step (mdX h.kind px py (B.drop h.used)).mx (mdX h.kind px py (B.drop h.used)).my (bdX (bf h.kind) (cds (4*(mdX h.kind px py (B.drop h.used)).pat+h.chr)) (B.drop h.used) (mdX h.kind px py (B.drop h.used)).used).1,0,
   h.used+(bdX (bf h.kind) (cds (4*(mdX h.kind px py (B.drop h.used)).pat+h.chr)) (B.drop h.used) (mdX h.kind px py (B.drop h.used)).used).2.2)
def gy (b:Bool) (px py:Int) (B:List Int):Cel×Int×Nat:=kH px py B (hdX b 65 0 B)
theorem tL (b:Bool) (B:List Int) (h:(mbN b B).2.2.1≠0):(mbN b B).1=0∧(mbN b B).2.1=0∧(mbN b B).2.2.2=0:=by
 unfold mbN Mb.mbX at h ⊢
 generalize cV (Mb.iF b) (B.map bM) []=y at *
 obtain⟨i,e,c⟩:=y
 simp only at h ⊢
 by_cases h1:e=0
 ·rw[if_pos h1]at h ⊢
  by_cases h2:(i+(if b=true then 0 else 12)) / 4=2
  ·rw[if_pos h2];exact⟨rfl,rfl,rfl⟩
  ·rw[if_neg h2]at h
   exact absurd rfl h
 ·rw[if_neg h1];exact⟨rfl,rfl,rfl⟩
theorem xW (b:Bool) (B:List Int):(mbN b B).2.2.2≤B.length:=by
 have hu:=kL (Mb.iF b) (B.map bM) []
 unfold mbN Mb.mbX
 generalize cV (Mb.iF b) (B.map bM) []=y at *
 obtain⟨i,e,c⟩:=y
 simp only at hu ⊢
 by_cases h1:e=0
 ·rw[if_pos h1]
  by_cases h2:(i+(if b=true then 0 else 12)) / 4=2
  ·rw[if_pos h2];exact Nat.zero_le _
  ·rw[if_neg h2]
   simpa using hu h1
 ·rw[if_neg h1];exact Nat.zero_le _
theorem pX (b:Bool) (B:List Int):(cbN b B).2.2≤B.length:=by
 have hu:=kL Cb.cbR (B.map bM) []
 unfold cbN Cb.cbX
 split
 ·rename_i h1
  simpa using hu h1
 ·exact Nat.zero_le _
theorem BF {B:List Int} (hB:∀b∈B,b=0∨b=1):Mv.Same (Mv.mt B 0 1) (cV Mv.dL (B.map bM) []):=by
 have h2:=Mv.vI 14 _ _ Mv.xb B hB
 rwa [Mv.xV]at h2
theorem nL {B:List Int} (hB:∀b∈B,b=0∨b=1):(mvN B).2.2≤B.length:=by
 have hs:=BF hB
 have hu:=kL Mv.dL (B.map bM) []
 unfold mvN
 split
 ·rename_i h1
  rw[hs.1]at h1 ⊢
  simpa using hu h1
 ·exact Nat.zero_le _
theorem xn (B:List Int):(stN B).2.2≤B.length:=by
 unfold stN stX
 split
 ·exact Nat.zero_le _
 ·simp only;omega
theorem rX (intra c:Bool) (s:List UInt8) (p:Nat) (hp:p≤8*s.length):p+(blX intra c (ak s p)).2.2.2≤8*s.length:=by
 have hl:=bY s p
 have hd:=HE (nB ((ak s p).take 8)) (ak s p).length
 have h0:p+(dc0 intra (ak s p)).2.2≤8*s.length:=by
  unfold dc0
  split
  ·omega
  ·simpa using hp
 have he:=yw 66 s (p+(dc0 intra (ak s p)).2.2) (frm intra:Nat) h0
 rw[←bX]at he
 unfold blX
 split
 ·simpa using hp
 ·split
  ·split
   ·simpa using hp
   ·simp only;omega
  ·exact h0
end Ci
namespace Ci
open Go Bt Tc Co Bl
attribute [local irreducible] aa ACalls
variable {gl:List (Nat×List D)}
noncomputable abbrev gB:List (Nat×List D):=[(0,gl0),(3,gl3),(1,gl1),(2,gl2)]
theorem NA:∀p∈Mb.gsp,p∈gB:=by simp[Mb.gsp,gB]
theorem Nz:∀p∈gtc,p∈gB:=by simp[gtc,gB]
theorem NC:∀p∈[(0,gl0)],p∈gB:=by simp[gB]
attribute [local irreducible] nB ak
theorem MX (s:List UInt8) (p:Nat) (hs:s.length≤1000000) (hp:p≤8*s.length):ACalls (cxg gl) 294 [.ptr 0 0] [Rd s p]
  (fun r H=>r = .bK [I (stN (ak s p)).1,I (stN (ak s p)).2.1]∧H=[Rd s ((p+(stN (ak s p)).2.2:Nat):Int)]):=by
 have tk:=iO (gl:=gl) s p 2 (by omega) hp (by omega)
 have hBl:=bY s p
 unfold pkN tkN at tk
 unfold stN stX
 rw[hBl]
 by_cases h:8*s.length<p+2
 ·rw[if_pos h,if_pos h]at tk
  rw[if_pos (by omega)]
  refine ACalls.en Tryz.func294 Tryz.ntmps294 ?_
  repeat' (first|refine aa.aD ?_|refine aa.bh true ?_|refine aa.az [0] ( tk) ?_|refine aa.ae ?_|refine aa.af ?_|refine aa.au ?_|refine aa.ai ?_|intro _|refine aa.av ?_)
  all_goals first|exact⟨rfl,rfl⟩|omega
 ·rw[if_neg h,if_neg h]at tk
  rw[if_neg (by omega)]
  have v01:=jd 2 _ (take_len s p 2 (by omega)) (dQ s p 2)
  generalize nB ((ak s p).take 2)=v at *
  by_cases h2:2≤v
  ·rw[if_pos h2]
   refine ACalls.en Tryz.func294 Tryz.ntmps294 ?_
   repeat' (first|refine aa.aD ?_|refine aa.bh true ?_|refine aa.az [0] ( tk) ?_|refine aa.ae ?_|refine aa.af ?_|refine aa.au ?_|refine aa.ai ?_|intro _|refine aa.av ?_)
   all_goals first|exact⟨rfl,rfl⟩|omega
  ·rw[if_neg h2]
   refine ACalls.en Tryz.func294 Tryz.ntmps294 ?_
   repeat' (first|refine aa.aD ?_|refine aa.bh true ?_|refine aa.az [0] ( tk) ?_|refine aa.ae ?_|refine aa.af ?_|refine aa.au ?_|refine aa.ai ?_|intro _|refine aa.av ?_)
   all_goals first|exact⟨rfl,rfl⟩|omega
theorem FN (s:List UInt8) (p:Nat) (hs:s.length≤100000) (hp:p≤8*s.length):ACalls (cxg gl) 134 [S (aS s),I p] []
  (fun r H=>r = .bK [I (stN (ak s p)).1,I ((p+(stN (ak s p)).2.2:Nat):Int),I (stN (ak s p)).2.1]∧H=[]):=by
 have hBl:=bY s p
 have hlen:=cZ s
 unfold stN stX
 rw[hBl]
 by_cases h:8*s.length<p+2
 ·rw[if_pos (by omega)]
  refine ACalls.en Tryz.func134 Tryz.ntmps134 ?_
  repeat' (first|refine aa.aD ?_|(apply aa.q true;rfl;rfl;rfl;rfl;first|exact True.intro|omega|(simp only[tn,Int.reduceToNat];omega)|(rw[hlen];omega))|refine aa.ae ?_|refine aa.af ?_|refine aa.aF ?_|intro _|refine aa.av ?_)
  all_goals first|exact⟨rfl,rfl⟩|omega
 ·rw[if_neg (by omega)]
  have l2:=take_len s p 2 (by omega)
  have o2:=dQ s p 2
  have v01:=jd 2 _ l2 o2
  have s2:((aS s).take ((p:Int)+2).toNat).drop (p:Int).toNat=((ak s p).take 2).map bM:=by
   rw[show ((p:Int)+2).toNat=p+2 by omega,Int.toNat_natCast]
   exact mJ s p 2
  have n2:=l7 (gl:=gl) (((ak s p).take 2).map bM) (by rw[List.length_map];omega) (all_map _ o2)
  rw[jZ _ o2,←s2]at n2
  generalize nB ((ak s p).take 2)=v at *
  rcases (show v=0∨v=1∨v=2∨v=3 by omega)with rfl|rfl|rfl|rfl
  all_goals
   refine ACalls.en Tryz.func134 Tryz.ntmps134 ?_
   repeat' (first|refine aa.aD ?_|(apply aa.q true;rfl;rfl;rfl;rfl;first|exact True.intro|omega|(simp only[tn,Int.reduceToNat];omega)|(decide)|(rw[hlen];omega))|refine aa.ah (n2) ?_|refine aa.ae ?_|refine aa.af ?_|refine aa.aF ?_|intro _|refine aa.av ?_)
   all_goals first|exact⟨rfl,rfl⟩|omega
theorem Kn (b:Bool) (s:List UInt8) (p:Nat) (hs:s.length≤1000000) (hp:p≤8*s.length):ACalls (cxg gB) 291 [.ptr 0 0,B b] [Rd s p]
  (fun r H=>r = .bK [I (mbN b (ak s p)).1,I (mbN b (ak s p)).2.1,I (mbN b (ak s p)).2.2.1]∧H=[Rd s ((p+(mbN b (ak s p)).2.2.2:Nat):Int)]):=by
 have h:=(Mb.Gz b s p hs hp).more NA
 have he:=tL b (ak s p)
 have e:Mb.pM p (mbN b (ak s p))=p+(mbN b (ak s p)).2.2.2:=by
  unfold Mb.pM
  split
  ·rfl
  ·rename_i h1
   rw[(he h1).2.2];rfl
 rw[←e]
 exact h
theorem NQ (b:Bool) (s:List UInt8) (p:Nat) (hs:s.length≤1000000) (hp:p≤8*s.length):ACalls (cxg gl) 292 [.ptr 0 0,B b] [Rd s p]
  (fun r H=>r = .bK [I (cbN b (ak s p)).1,I (cbN b (ak s p)).2.1]∧H=[Rd s ((p+(cbN b (ak s p)).2.2:Nat):Int)]):=by
 have h:=Cb.JN (gl:=gl) b s p hs hp
 have e:Px.qm p (Cb.cbX b ((ak s p).map bM))=p+(cbN b (ak s p)).2.2:=by
  unfold Px.qm cbN
  simp only
  split<;>rfl
 rw[e]at h
 exact h
theorem Nj (s:List UInt8) (p:Nat) (hs:s.length≤1000000) (hp:p≤8*s.length):ACalls (cxg gB) 295 [.ptr 0 0] [Rd s p]
  (fun r H=>r = .bK [I (mvN (ak s p)).1,I (mvN (ak s p)).2.1]∧H=[Rd s ((p+(mvN (ak s p)).2.2:Nat):Int)]):=by
 have h:=(Mv.Je s p hs hp).more NC
 have e:Mv.vO p (Mv.mt (ak s p) 0 1)=p+(mvN (ak s p)).2.2:=by
  unfold Mv.vO mvN
  simp only
  split<;>rfl
 rw[e]at h
 exact h
theorem NU (s:List UInt8) (p:Nat) (intra coded:Bool) (hs:s.length≤1000000) (hp:p≤8*s.length):ACalls (cxg gB) 296 [.ptr 0 0,B intra,B coded] [Rd s p]
  (fun r H=>r = .bK [I (blX intra coded (ak s p)).1, .d (.sl 3 (cn (blX intra coded (ak s p)).2.1)),I (blX intra coded (ak s p)).2.2.1]∧H=[Rd s ((p+(blX intra coded (ak s p)).2.2.2:Nat):Int)]):=(H4 s p intra coded hs hp).more Nz
theorem FV (b:Bool) (s:List UInt8) (p:Nat) (hs:s.length≤100000) (hp:p≤8*s.length):ACalls (cxg gl) 201 [S (aS s),I p,B b] []
  (fun r H=>r = .bK [I (mbN b (ak s p)).1,I (mbN b (ak s p)).2.1,I ((p+(mbN b (ak s p)).2.2.2:Nat):Int),I (mbN b (ak s p)).2.2.1]∧H=[]):=by
 have h:=Mb.Ee (gl:=gl) b (aS s) p (by rw[cZ];omega) (by rw[cZ];omega)
 rw[iW]at h
 have he:=tL b (ak s p)
 have e:Mb.pM p (mbN b (ak s p))=p+(mbN b (ak s p)).2.2.2:=by
  unfold Mb.pM
  split
  ·rfl
  ·rename_i h1
   rw[(he h1).2.2];rfl
 rw[←e]
 exact h
theorem xD (b:Bool) (s:List UInt8) (p:Nat) (hs:s.length≤100000) (hp:p≤8*s.length):ACalls (cxg gl) 133 [S (aS s),I p,B b] []
  (fun r H=>r = .bK [I (cbN b (ak s p)).1,I ((p+(cbN b (ak s p)).2.2:Nat):Int),I (cbN b (ak s p)).2.1]∧H=[]):=by
 have h:=Cb.F6 (gl:=gl) b (aS s) p (by rw[cZ];omega) (by rw[cZ];omega)
 rw[iW]at h
 have e:Px.qm p (Cb.cbX b ((ak s p).map bM))=p+(cbN b (ak s p)).2.2:=by
  unfold Px.qm cbN
  simp only
  split<;>rfl
 rw[e]at h
 exact h
theorem xy (s:List UInt8) (p:Nat) (hs:s.length≤100000) (hp:p≤8*s.length):ACalls (cxg gl) 135 [S (aS s),I p] []
  (fun r H=>r = .bK [I (mvN (ak s p)).1,I ((p+(mvN (ak s p)).2.2:Nat):Int),I (mvN (ak s p)).2.1]∧H=[]):=by
 have h:=Mv.FT (gl:=gl) (aS s) p (by rw[cZ];omega) (by omega) (Mv.MU s p hp)
 rw[Mv.MQ s p hp]at h
 have e:Mv.vO p (Mv.mt (ak s p) 0 1)=p+(mvN (ak s p)).2.2:=by
  unfold Mv.vO mvN
  simp only
  split<;>rfl
 rw[e]at h
 exact h
end Ci
namespace Ci
open Go Bt Tc Co Bl
attribute [local irreducible] aa ACalls
variable {gl:List (Nat×List D)}
abbrev Rr (i:Nat) (e:Int):aM := .cells [.ptr i 0,I e]
abbrev vR (st:Int) (sk:Bool) (ki:Int):List AV:=[I st,B sk,I ki,I 0,I 0,I 0,I 0,I 0,I 0,I 0,I 0,I 0, .d .aY, .d .aY, .d .aY, .d .aY, .d .aY, .d .aY]
theorem Dc (f:Nat) (n:Int) (s:List UInt8) (p:Nat) (h:8*s.length≤p):hdX true (f+1) n (ak s p)=⟨n,false,0,0,2,0⟩:=by
 rw[kP s p h];rfl
theorem Db (f:Nat) (n:Int) (s:List UInt8) (p:Nat) (h:p<8*s.length) (h1:dz s (p:Int)=1):hdX true (f+1) n (ak s p)=⟨n,true,0,0,0,1⟩:=by
 rw[fO s p h,hdX,if_pos rfl,if_neg (by simp),if_pos (by simpa using h1)]
theorem Ag (f:Nat) (n:Int) (s:List UInt8) (p:Nat) (h:p<8*s.length) (h1:dz s (p:Int)≠1):hdX true (f+1) n (ak s p)=hdK n 1 (mbN true (ak s (p+1))) (hdX true f (n+1) (ak s (p+1+(mbN true (ak s (p+1))).2.2.2))):=by
 have e:=fO s p h
 rw[hdX,if_pos rfl,if_neg (by rw[e];simp),if_neg (by rw[e];simpa using h1),bX,bX,←Nat.add_assoc]
theorem Ko (f:Nat) (n:Int) (s:List UInt8) (p:Nat):hdX false (f+1) n (ak s p)=hdK n 0 (mbN false (ak s p)) (hdX false f (n+1) (ak s (p+(mbN false (ak s p)).2.2.2))):=by
 rw[hdX,if_neg (by decide),bX]
theorem Dz (s:List UInt8) (p:Nat) (hs:s.length≤1000000) (h:p<8*s.length):ACalls (cxg gl) 290 [.ptr 0 0] [Rr 1 0,Rd s p] (fun r H=>r=I (dz s p)∧H=[Rr 1 0,Rd s ((p+1:Nat):Int)]):=by
 have t:=Mv.jF (gl:=gl) s p (by omega) h
 refine ACalls.en Tryz.func290 Tryz.ntmps290 ?_
 repeat' (first|refine aa.aD ?_|refine aa.bh true ?_|refine aa.az [1] ( t) ?_|refine aa.ai ?_|refine aa.aA ?_|intro _|refine aa.av ?_)
 all_goals first|exact⟨rfl,rfl⟩
theorem H5 (s:List UInt8) (p:Nat) (hs:s.length≤1000000) (h:p=8*s.length):ACalls (cxg gl) 290 [.ptr 0 0] [Rr 1 0,Rd s p] (fun r H=>r=I 0∧H=[Rr 1 2,Rd s p]):=by
 have t:=Mv.lW (gl:=gl) s p (by omega) h
 refine ACalls.en Tryz.func290 Tryz.ntmps290 ?_
 repeat' (first|refine aa.aD ?_|refine aa.bh true ?_|refine aa.az [1] ( t) ?_|refine aa.ai ?_|refine aa.aA ?_|intro _|refine aa.av ?_)
 all_goals first|exact⟨rfl,rfl⟩
def hdA (q:Nat) (h:HdR):HdR:={ h with used:=q+h.used }
theorem Kq (h:HdR):hdA 0 h=h:=by
 cases h;simp[hdA]
attribute [local irreducible] mbN ak dz hdX
theorem JQ (b:Bool) (s:List UInt8) (p:Nat) (hs:s.length≤1000000) (hp:p≤8*s.length):ACalls (cxg gB) 266 [.ptr 0 0,B b, .ptr 1 0] [Rr 2 0, .cells (vR 0 false 0),Rd s p]
  (fun r H=>r = .bK [I (hdX b 65 0 (ak s p)).chr,B (decide ((hdX b 65 0 (ak s p)).err=0)&&!(hdX b 65 0 (ak s p)).skip)]∧H=[Rr 2 (hdX b 65 0 (ak s p)).err, .cells (vR (hdX b 65 0 (ak s p)).stuff (hdX b 65 0 (ak s p)).skip (hdX b 65 0 (ak s p)).kind),Rd s ((p+(hdX b 65 0 (ak s p)).used:Nat):Int)]):=by
 have hle:=fun q=>xW b (ak s q)
 generalize hh0:hdX b 65 0 (ak s p)=h at *
 refine ACalls.en Tryz.func266 Tryz.ntmps266 ?_
 repeat (first|refine aa.aD ?_|refine aa.bh true ?_|refine aa.ae ?_|refine aa.af ?_|refine aa.au ?_|refine aa.ai ?_|refine aa.aA ?_|refine aa.aj ?_|refine aa.aK ?_|refine aa.aB ?_)
 refine aa.weak (env':=[(2, .ptr 1 0),(1,B b),(0, .ptr 0 0)]) ⟨rfl,rfl,rfl,trivial⟩ ?_
 refine aa.loop (fun m env H=>∃(f:Nat) (n:Int) (q:Nat),m=f∧(0≤n∧n≤64∧64 - n<f)∧p+q≤8*s.length∧hdA q (hdX b f n (ak s (p+q)))=h∧env=[(2, .ptr 1 0),(1,B b),(0, .ptr 0 0)] ∧
  H=[Rr 2 0, .cells (vR n false 0),Rd s ((p+q:Nat):Int)]) 65
  ⟨65,0,0,rfl,by omega,by omega,by rw[Nat.add_zero,hh0];exact Kq h,rfl,rfl⟩ ?_
 rintro m env H ⟨f,n,q,rfl,hn,hq,hh,rfl,rfl⟩
 obtain⟨f,rfl⟩:∃g,m=g+1:=⟨m - 1,by omega⟩
 cases b with
 |false =>
  have mt:=Kn false s (p+q) hs hq
  have ml:=hle (p+q)
  have me:=tL false (ak s (p+q))
  rw[bY]at ml
  rw[Ko]at hh
  generalize mbN false (ak s (p+q))=x at *
  obtain⟨k,ch,e,u⟩:=x
  simp only at mt ml me hh
  unfold hdK at hh
  simp only at hh
  by_cases he:e=0
  ·subst he
   rw[if_neg (by simp)]at hh
   by_cases h5:k=5
   ·subst h5
    rw[if_neg (by simp)]at hh
    by_cases h64:n=64
    ·subst h64
     rw[if_pos rfl]at hh
     subst hh
     simp only[hdA,Nat.zero_add,←Nat.add_assoc]
     repeat' (first|refine aa.aD ?_|refine aa.bh true ?_|refine aa.az [2] ( mt) ?_|refine aa.ae ?_|refine aa.af ?_|refine aa.au ?_|refine aa.ai ?_|refine aa.aA ?_|refine aa.aj ?_|refine aa.aK ?_|refine aa.aB ?_|intro _|refine aa.av ?_|refine aa.aP ?_|refine aa.aI ?_)
     all_goals first|exact⟨rfl,rfl⟩|omega
    ·rw[if_neg h64]at hh
     repeat' (first|refine aa.aD ?_|refine aa.bh true ?_|refine aa.az [2] ( mt) ?_|refine aa.ae ?_|refine aa.af ?_|refine aa.au ?_|refine aa.ai ?_|refine aa.aA ?_|refine aa.aj ?_|refine aa.aK ?_|refine aa.aB ?_|intro _|refine aa.av ?_|refine aa.aP ?_|refine aa.aI ?_)
     all_goals first
      |exact aa.round [(2, .ptr 1 0),(1,B false),(0, .ptr 0 0)] f (by omega) ⟨rfl,rfl,rfl,trivial⟩ ⟨f,n+1,q+u,rfl,by omega,by omega,by rw[←hh];simp only[hdA,Nat.zero_add,Nat.add_assoc],rfl,by simp only[Nat.add_assoc]⟩
      |omega
   ·rw[if_pos h5]at hh
    subst hh
    simp only[hdA,Nat.zero_add,←Nat.add_assoc]
    repeat' (first|refine aa.aD ?_|refine aa.bh true ?_|refine aa.az [2] ( mt) ?_|refine aa.ae ?_|refine aa.af ?_|refine aa.au ?_|refine aa.ai ?_|refine aa.aA ?_|refine aa.aj ?_|refine aa.aK ?_|refine aa.aB ?_|intro _|refine aa.av ?_|refine aa.aP ?_|refine aa.aI ?_)
    all_goals first|exact⟨rfl,rfl⟩|omega
  ·rw[if_pos he]at hh
   obtain⟨_,_,rfl⟩:=me he
   subst hh
   simp only[hdA,Nat.add_zero]
   rw[Nat.add_zero]at mt
   repeat' (first|refine aa.aD ?_|refine aa.bh true ?_|refine aa.az [2] ( mt) ?_|refine aa.ae ?_|refine aa.af ?_|refine aa.au ?_|refine aa.ai ?_|refine aa.aA ?_|refine aa.aj ?_|refine aa.aK ?_|refine aa.aB ?_|intro _|refine aa.av ?_|refine aa.aP ?_|refine aa.aI ?_)
   all_goals first|exact⟨by simp[he],rfl⟩|omega
 |true =>
  rcases Nat.lt_or_ge (p+q) (8*s.length)with hlt|hge
  ·have hb01:=jw s ((p+q:Nat):Int)
   have bc:=Dz (gl:=gB) s (p+q) hs hlt
   by_cases h1:dz s ((p+q:Nat):Int)=1
   ·rw[Db _ _ _ _ hlt h1]at hh
    rw[h1]at bc
    subst hh
    simp only[hdA,←Nat.add_assoc]
    repeat' (first|refine aa.aD ?_|refine aa.bh true ?_|refine aa.az [0,2] ( bc) ?_|refine aa.ae ?_|refine aa.af ?_|refine aa.au ?_|refine aa.ai ?_|refine aa.aA ?_|refine aa.aj ?_|refine aa.aK ?_|refine aa.aB ?_|intro _|refine aa.av ?_|refine aa.aP ?_|refine aa.aI ?_)
    all_goals first|exact⟨rfl,rfl⟩|omega
   ·rw[Ag _ _ _ _ hlt h1]at hh
    rw[show dz s ((p+q:Nat):Int)=0 by omega]at bc
    have mt:=Kn true s (p+q+1) hs (by omega)
    have ml:=hle (p+q+1)
    have me:=tL true (ak s (p+q+1))
    rw[bY]at ml
    generalize mbN true (ak s (p+q+1))=x at *
    obtain⟨k,ch,e,u⟩:=x
    simp only at mt ml me hh
    unfold hdK at hh
    simp only at hh
    by_cases he:e=0
    ·subst he
     rw[if_neg (by simp)]at hh
     by_cases h5:k=5
     ·subst h5
      rw[if_neg (by simp)]at hh
      by_cases h64:n=64
      ·subst h64
       rw[if_pos rfl]at hh
       subst hh
       simp only[hdA,←Nat.add_assoc]
       repeat' (first|refine aa.aD ?_|refine aa.bh true ?_|refine aa.az [0,2] ( bc) ?_|refine aa.az [2] ( mt) ?_|refine aa.ae ?_|refine aa.af ?_|refine aa.au ?_|refine aa.ai ?_|refine aa.aA ?_|refine aa.aj ?_|refine aa.aK ?_|refine aa.aB ?_|intro _|refine aa.av ?_|refine aa.aP ?_|refine aa.aI ?_)
       all_goals first|exact⟨rfl,rfl⟩|omega
      ·rw[if_neg h64]at hh
       repeat' (first|refine aa.aD ?_|refine aa.bh true ?_|refine aa.az [0,2] ( bc) ?_|refine aa.az [2] ( mt) ?_|refine aa.ae ?_|refine aa.af ?_|refine aa.au ?_|refine aa.ai ?_|refine aa.aA ?_|refine aa.aj ?_|refine aa.aK ?_|refine aa.aB ?_|intro _|refine aa.av ?_|refine aa.aP ?_|refine aa.aI ?_)
       all_goals first
        |exact aa.round [(2, .ptr 1 0),(1,B true),(0, .ptr 0 0)] f (by omega) ⟨rfl,rfl,rfl,trivial⟩ ⟨f,n+1,q+1+u,rfl,by omega,by omega,by rw[←hh];simp only[hdA,Nat.add_assoc],rfl,by simp only[Nat.add_assoc]⟩
        |omega
     ·rw[if_pos h5]at hh
      subst hh
      simp only[hdA,←Nat.add_assoc]
      repeat' (first|refine aa.aD ?_|refine aa.bh true ?_|refine aa.az [0,2] ( bc) ?_|refine aa.az [2] ( mt) ?_|refine aa.ae ?_|refine aa.af ?_|refine aa.au ?_|refine aa.ai ?_|refine aa.aA ?_|refine aa.aj ?_|refine aa.aK ?_|refine aa.aB ?_|intro _|refine aa.av ?_|refine aa.aP ?_|refine aa.aI ?_)
      all_goals first|exact⟨rfl,rfl⟩|omega
    ·rw[if_pos he]at hh
     obtain⟨_,_,rfl⟩:=me he
     subst hh
     simp only[hdA,←Nat.add_assoc]
     rw[Nat.add_zero]at mt
     repeat' (first|refine aa.aD ?_|refine aa.bh true ?_|refine aa.az [0,2] ( bc) ?_|refine aa.az [2] ( mt) ?_|refine aa.ae ?_|refine aa.af ?_|refine aa.au ?_|refine aa.ai ?_|refine aa.aA ?_|refine aa.aj ?_|refine aa.aK ?_|refine aa.aB ?_|intro _|refine aa.av ?_|refine aa.aP ?_|refine aa.aI ?_)
     all_goals first|exact⟨by simp[he],rfl⟩|omega
  ·have be:=H5 (gl:=gB) s (p+q) hs (by omega)
   rw[Dc _ _ _ _ hge]at hh
   subst hh
   simp only[hdA,Nat.add_zero]
   repeat' (first|refine aa.aD ?_|refine aa.bh true ?_|refine aa.az [0,2] ( be) ?_|refine aa.ae ?_|refine aa.af ?_|refine aa.au ?_|refine aa.ai ?_|refine aa.aA ?_|refine aa.aj ?_|refine aa.aK ?_|refine aa.aB ?_|intro _|refine aa.av ?_|refine aa.aP ?_|refine aa.aI ?_)
   all_goals first|exact⟨rfl,rfl⟩|omega
end Ci
namespace Ci
open Go Bt Tc Co Bl
attribute [local irreducible] aa ACalls aO aC bB
variable {gl:List (Nat×List D)}
abbrev Mt (st:Int) (ki sp mx my:Int):List AV:=[I st,B false,I ki,I sp,I mx,I my,I 0,I 0,I 0,I 0,I 0,I 0, .d .aY, .d .aY, .d .aY, .d .aY, .d .aY, .d .aY]
theorem Az (k:Int):ACalls (cxg gl) 293 [I k] [] (fun r H=>r=B (bf k)∧H=[]):=by
 by_cases h:k=3∨k=4
 ·rw[show bf k=true from decide_eq_true h]
  rcases h with rfl|rfl
  all_goals
   refine ACalls.en Tryz.func293 Tryz.ntmps293 ?_
   repeat' (first|refine aa.aD ?_|refine aa.bh true ?_|refine aa.aj ?_|refine aa.bL ?_|refine aa.bq ?_|refine aa.aB ?_|intro _|refine aa.av ?_)
   all_goals first|exact⟨rfl,rfl⟩
 ·rw[show bf k=false from decide_eq_false h]
  refine ACalls.en Tryz.func293 Tryz.ntmps293 ?_
  repeat' (first|refine aa.aD ?_|refine aa.bh true ?_|refine aa.aj ?_|refine aa.bL ?_|refine aa.bq ?_|refine aa.aB ?_|intro _|refine aa.av ?_)
  all_goals first|exact⟨rfl,rfl⟩|exact⟨congrArg B (by simp only[bF];omega),rfl⟩
theorem uP (B:List Int) (hB:∀x∈B,x=0∨x=1) : -32≤(mvN B).1∧(mvN B).1≤31:=by
 have hs:=BF hB
 have hb:=Mv.iR Mv.dL (B.map bM) []
 rw[Mv.oG]at hb
 unfold mvN
 obtain⟨a1,a2,a3⟩:=hs
 by_cases h:(Mv.mt B 0 1).2.1=0
 ·have e:=a2 h
  have hb:=hb (by rw[←a1];exact h)
  simp only
  omega
 ·have e:=a3 h
  simp only
  omega
theorem Kl {B:List Int} (h:(mvN B).2.1≠0):(mvN B).2.2=0:=by
 unfold mvN at h ⊢
 exact if_neg h
theorem NR {b:Bool} {B:List Int} (h:(cbN b B).2.1≠0):(cbN b B).2.2=0:=by
 unfold cbN at h ⊢
 exact if_neg h
theorem Kg {B:List Int} (h:(stN B).2.1≠0):(stN B).1=0∧(stN B).2.2=0:=by
 unfold stN stX at h ⊢
 split
 ·exact⟨rfl,rfl⟩
 ·rename_i h1
  rw[if_neg h1]at h
  exact absurd rfl h
attribute [local irreducible] mbN cbN mvN stN ak cW
theorem Mq (st k px py:Int) (s:List UInt8) (p:Nat) (hk:k=0∨k=1∨k=3∨k=4) (hpx:I64 px) (hpy:I64 py) (hs:s.length≤1000000) (hp:p≤8*s.length) :
  ACalls (cxg gB) 267 [.ptr 0 0, .ptr 1 0, .d (.agg [In px,In py])] [Rr 2 0, .cells (vR st false k),Rd s p]
  (fun r H=>r=I (mdX k px py (ak s p)).pat∧H=[Rr 2 (mdX k px py (ak s p)).err, .cells (Mt st k (mdX k px py (ak s p)).step (mdX k px py (ak s p)).mx (mdX k px py (ak s p)).my),Rd s ((p+(mdX k px py (ak s p)).used:Nat):Int)]):=by
 have ic:=Az (gl:=gB) k
 have cb:=NQ (gl:=gB) (bf k) s p hs hp
 have cl:=pX (bf k) (ak s p)
 have sl:=xn
 have w1:=A7 (gl:=gB) px hpx
 have w2:=A7 (gl:=gB) py hpy
 have wb1:=gY px
 have wb2:=gY py
 have ww:=fun n h=>A7 (gl:=gB) n h
 have hBl:=bY s
 have stc:=fun q hq=>MX (gl:=gB) s q hs hq
 have mvc:=fun q hq=>Nj s q hs hq
 have mvl:=fun q=>nL (cO s q)
 have mvb:=fun q=>uP _ (cO s q)
 unfold mdX mdM
 simp only[bX]
 rw[hBl]at cl
 have cu:=NR (b:=bf k) (B:=ak s p)
 generalize hX:cbN (bf k) (ak s p)=x at *
 obtain⟨pat,e,u⟩:=x
 simp only at cb cl cu ⊢
 by_cases he:e=0
 ·subst he
  simp only[ne_eq,not_true_eq_false,if_false]
  rcases hk with rfl|rfl|rfl|rfl
  ·have hI:bf 0=false:=rfl
   have hS:dP 0=false:=rfl
   rw[hI]at ic cb
   simp only[hI,hS,Bool.false_eq_true,if_false]
   have mv1:=fun h=>mvc (p+u) h
   have ml1:=mvl (p+u)
   have mb1:=mvb (p+u)
   rw[hBl]at ml1
   have m1:=mv1 (by omega)
   have mu1:=Kl (B:=ak s (p+u))
   generalize mvN (ak s (p+u))=y at *
   obtain⟨d1,e1,u1⟩:=y
   simp only at m1 ml1 mb1 mu1 ⊢
   have v1:=ww (cW px+d1) (by omega)
   by_cases h1:e1=0
   ·subst h1
    simp only[not_true_eq_false,if_false]
    simp only[←Nat.add_assoc]
    have m2:=mvc ((p+u)+u1) (by omega)
    have mb2:=mvb ((p+u)+u1)
    generalize mvN (ak s ((p+u)+u1))=z at *
    obtain⟨d2,e2,u2⟩:=z
    simp only at m2 mb2 ⊢
    have v2:=ww (cW py+d2) (by omega)
    unfold wr
    refine ACalls.en Tryz.func267 Tryz.ntmps267 ?_
    repeat' (first|refine aa.aD ?_|(apply aa.cg [0,1,2,3,4,5,6,7,8,9,10,11,12,13,14] 15 9;rfl)|(apply aa.cg [0,1,2,3,4,5,6,7,8,9,10,11,12] 13 12;rfl)|(apply aO.bi;rfl;(apply aQ.q true;rfl;rfl;first|exact True.intro|omega);exact fun _ _ _ h=>h;(iterate 6 rfl);kernel_rfl;kernel_rfl)|refine aO.cf ?_|(apply aO.go)|refine aC.bQ ?_|(apply aC.bi;rfl;(apply aQ.q true;rfl;rfl;first|exact True.intro|omega);exact fun _ _ _ h=>h;(iterate 6 rfl);kernel_rfl;kernel_rfl)|refine aC.aH (ic) ?_|refine aC.aH (w1) ?_|refine aC.aH (w2) ?_|refine aC.aH (v1) ?_|refine aC.aH (v2) ?_|refine aC.dw ?_|(apply aC.iC;rfl;kernel_rfl)|refine bB.dw ?_|(apply aC.back)|(exact aa.cL)|(apply aa.bV;(repeat' (first|exact bz.nil|(apply bz.cons;rfl)));rfl)|refine aa.bh true ?_|refine aa.az [2] ( cb) ?_|refine aa.az [2] ( m1) ?_|refine aa.az [2] ( m2) ?_|refine aa.ah (ic) ?_|refine aa.ah (w1) ?_|refine aa.ah (w2) ?_|refine aa.ah (v1) ?_|refine aa.ah (v2) ?_|refine aa.aW ?_|refine aa.ae ?_|refine aa.af ?_|refine aa.au ?_|refine aa.ai ?_|refine aa.ba ?_|refine aa.aA ?_|refine aa.aj ?_|refine aa.bL ?_|refine aa.bq ?_|refine aa.aB ?_|apply aa.cK|apply aa.lpU|intro _|refine aa.av ?_)
    all_goals first|exact⟨rfl,rfl⟩|omega
   ·rw[if_pos h1]
    unfold wr
    obtain rfl:=mu1 h1
    rw[Nat.add_zero]at m1
    simp only[←Nat.add_assoc]
    refine ACalls.en Tryz.func267 Tryz.ntmps267 ?_
    repeat' (first|refine aa.aD ?_|(apply aa.cg [0,1,2,3,4,5,6,7,8,9,10,11,12,13,14] 15 9;rfl)|(apply aa.cg [0,1,2,3,4,5,6,7,8,9,10,11,12] 13 12;rfl)|(apply aO.bi;rfl;(apply aQ.q true;rfl;rfl;first|exact True.intro|omega);exact fun _ _ _ h=>h;(iterate 6 rfl);kernel_rfl;kernel_rfl)|refine aO.cf ?_|(apply aO.go)|refine aC.bQ ?_|(apply aC.bi;rfl;(apply aQ.q true;rfl;rfl;first|exact True.intro|omega);exact fun _ _ _ h=>h;(iterate 6 rfl);kernel_rfl;kernel_rfl)|refine aC.aH (ic) ?_|refine aC.aH (w1) ?_|refine aC.aH (w2) ?_|refine aC.aH (v1) ?_|refine aC.dw ?_|(apply aC.iC;rfl;kernel_rfl)|refine bB.dw ?_|(apply aC.back)|(exact aa.cL)|(apply aa.bV;(repeat' (first|exact bz.nil|(apply bz.cons;rfl)));rfl)|refine aa.bh true ?_|refine aa.az [2] ( cb) ?_|refine aa.az [2] ( m1) ?_|refine aa.ah (ic) ?_|refine aa.ah (w1) ?_|refine aa.ah (w2) ?_|refine aa.ah (v1) ?_|refine aa.aW ?_|refine aa.ae ?_|refine aa.af ?_|refine aa.au ?_|refine aa.ai ?_|refine aa.ba ?_|refine aa.aA ?_|refine aa.aj ?_|refine aa.bL ?_|refine aa.bq ?_|refine aa.aB ?_|apply aa.cK|apply aa.lpU|intro _|refine aa.av ?_)
    all_goals first|exact⟨rfl,rfl⟩|omega
  ·have hI:bf 1=false:=rfl
   have hS:dP 1=true:=rfl
   rw[hI]at ic cb
   simp only[hI,hS,Bool.false_eq_true,if_false,if_true]
   have st1:=stc (p+u) (by omega)
   have sl1:=sl (ak s (p+u))
   have su1:=Kg (B:=ak s (p+u))
   rw[hBl]at sl1
   generalize stN (ak s (p+u))=t at *
   obtain⟨sp,se,su⟩:=t
   simp only at st1 sl1 su1 ⊢
   by_cases hse:se=0
   ·subst hse
    simp only[not_true_eq_false,if_false]
    simp only[←Nat.add_assoc]
    have mv1:=fun h=>mvc (p+u+su) h
    have ml1:=mvl (p+u+su)
    have mb1:=mvb (p+u+su)
    rw[hBl]at ml1
    have m1:=mv1 (by omega)
    have mu1:=Kl (B:=ak s (p+u+su))
    generalize mvN (ak s (p+u+su))=y at *
    obtain⟨d1,e1,u1⟩:=y
    simp only at m1 ml1 mb1 mu1 ⊢
    have v1:=ww (cW px+d1) (by omega)
    by_cases h1:e1=0
    ·subst h1
     simp only[not_true_eq_false,if_false]
     simp only[←Nat.add_assoc]
     have m2:=mvc ((p+u+su)+u1) (by omega)
     have mb2:=mvb ((p+u+su)+u1)
     generalize mvN (ak s ((p+u+su)+u1))=z at *
     obtain⟨d2,e2,u2⟩:=z
     simp only at m2 mb2 ⊢
     have v2:=ww (cW py+d2) (by omega)
     unfold wr
     refine ACalls.en Tryz.func267 Tryz.ntmps267 ?_
     repeat' (first|refine aa.aD ?_|(apply aa.cg [0,1,2,3,4,5,6,7,8,9,10,11,12,13,14] 15 9;rfl)|(apply aa.cg [0,1,2,3,4,5,6,7,8,9,10,11,12] 13 12;rfl)|(apply aO.bi;rfl;(apply aQ.q true;rfl;rfl;first|exact True.intro|omega);exact fun _ _ _ h=>h;(iterate 6 rfl);kernel_rfl;kernel_rfl)|refine aO.cf ?_|(apply aO.go)|refine aC.bQ ?_|(apply aC.bi;rfl;(apply aQ.q true;rfl;rfl;first|exact True.intro|omega);exact fun _ _ _ h=>h;(iterate 6 rfl);kernel_rfl;kernel_rfl)|refine aC.aH (ic) ?_|refine aC.aH (w1) ?_|refine aC.aH (w2) ?_|refine aC.aH (v1) ?_|refine aC.aH (v2) ?_|refine aC.dw ?_|(apply aC.iC;rfl;kernel_rfl)|refine bB.dw ?_|(apply aC.back)|(exact aa.cL)|(apply aa.bV;(repeat' (first|exact bz.nil|(apply bz.cons;rfl)));rfl)|refine aa.bh true ?_|refine aa.az [2] ( cb) ?_|refine aa.az [2] ( st1) ?_|refine aa.az [2] ( m1) ?_|refine aa.az [2] ( m2) ?_|refine aa.ah (ic) ?_|refine aa.ah (w1) ?_|refine aa.ah (w2) ?_|refine aa.ah (v1) ?_|refine aa.ah (v2) ?_|refine aa.aW ?_|refine aa.ae ?_|refine aa.af ?_|refine aa.au ?_|refine aa.ai ?_|refine aa.ba ?_|refine aa.aA ?_|refine aa.aj ?_|refine aa.bL ?_|refine aa.bq ?_|refine aa.aB ?_|apply aa.cK|apply aa.lpU|intro _|refine aa.av ?_)
     all_goals first|exact⟨rfl,rfl⟩|omega
    ·rw[if_pos h1]
     unfold wr
     obtain rfl:=mu1 h1
     rw[Nat.add_zero]at m1
     simp only[←Nat.add_assoc]
     refine ACalls.en Tryz.func267 Tryz.ntmps267 ?_
     repeat' (first|refine aa.aD ?_|(apply aa.cg [0,1,2,3,4,5,6,7,8,9,10,11,12,13,14] 15 9;rfl)|(apply aa.cg [0,1,2,3,4,5,6,7,8,9,10,11,12] 13 12;rfl)|(apply aO.bi;rfl;(apply aQ.q true;rfl;rfl;first|exact True.intro|omega);exact fun _ _ _ h=>h;(iterate 6 rfl);kernel_rfl;kernel_rfl)|refine aO.cf ?_|(apply aO.go)|refine aC.bQ ?_|(apply aC.bi;rfl;(apply aQ.q true;rfl;rfl;first|exact True.intro|omega);exact fun _ _ _ h=>h;(iterate 6 rfl);kernel_rfl;kernel_rfl)|refine aC.aH (ic) ?_|refine aC.aH (w1) ?_|refine aC.aH (w2) ?_|refine aC.aH (v1) ?_|refine aC.dw ?_|(apply aC.iC;rfl;kernel_rfl)|refine bB.dw ?_|(apply aC.back)|(exact aa.cL)|(apply aa.bV;(repeat' (first|exact bz.nil|(apply bz.cons;rfl)));rfl)|refine aa.bh true ?_|refine aa.az [2] ( cb) ?_|refine aa.az [2] ( st1) ?_|refine aa.az [2] ( m1) ?_|refine aa.ah (ic) ?_|refine aa.ah (w1) ?_|refine aa.ah (w2) ?_|refine aa.ah (v1) ?_|refine aa.aW ?_|refine aa.ae ?_|refine aa.af ?_|refine aa.au ?_|refine aa.ai ?_|refine aa.ba ?_|refine aa.aA ?_|refine aa.aj ?_|refine aa.bL ?_|refine aa.bq ?_|refine aa.aB ?_|apply aa.cK|apply aa.lpU|intro _|refine aa.av ?_)
     all_goals first|exact⟨rfl,rfl⟩|omega
   ·rw[if_pos hse]
    obtain⟨rfl,rfl⟩:=su1 hse
    rw[Nat.add_zero]at st1
    refine ACalls.en Tryz.func267 Tryz.ntmps267 ?_
    repeat' (first|refine aa.aD ?_|(apply aa.cg [0,1,2,3,4,5,6,7,8,9,10,11,12,13,14] 15 9;rfl)|(apply aa.cg [0,1,2,3,4,5,6,7,8,9,10,11,12] 13 12;rfl)|(apply aO.bi;rfl;(apply aQ.q true;rfl;rfl;first|exact True.intro|omega);exact fun _ _ _ h=>h;(iterate 6 rfl);kernel_rfl;kernel_rfl)|refine aO.cf ?_|(apply aO.go)|refine aC.bQ ?_|(apply aC.bi;rfl;(apply aQ.q true;rfl;rfl;first|exact True.intro|omega);exact fun _ _ _ h=>h;(iterate 6 rfl);kernel_rfl;kernel_rfl)|refine aC.aH (ic) ?_|refine aC.dw ?_|(apply aC.iC;rfl;kernel_rfl)|refine bB.dw ?_|(apply aC.back)|(exact aa.cL)|(apply aa.bV;(repeat' (first|exact bz.nil|(apply bz.cons;rfl)));rfl)|refine aa.bh true ?_|refine aa.az [2] ( cb) ?_|refine aa.az [2] ( st1) ?_|refine aa.ah (ic) ?_|refine aa.aW ?_|refine aa.ae ?_|refine aa.af ?_|refine aa.au ?_|refine aa.ai ?_|refine aa.ba ?_|refine aa.aA ?_|refine aa.aj ?_|refine aa.bL ?_|refine aa.bq ?_|refine aa.aB ?_|apply aa.cK|apply aa.lpU|intro _|refine aa.av ?_)
    all_goals first|exact⟨rfl,rfl⟩|omega
  ·have hI:bf 3=true:=rfl
   have hS:dP 3=false:=rfl
   rw[hI]at ic cb
   simp only[hI,hS,if_true,Bool.false_eq_true,if_false]
   refine ACalls.en Tryz.func267 Tryz.ntmps267 ?_
   repeat' (first|refine aa.aD ?_|(apply aa.cg [0,1,2,3,4,5,6,7,8,9,10,11,12,13,14] 15 9;rfl)|(apply aa.cg [0,1,2,3,4,5,6,7,8,9,10,11,12] 13 12;rfl)|(apply aO.bi;rfl;(apply aQ.q true;rfl;rfl;first|exact True.intro|omega);exact fun _ _ _ h=>h;(iterate 6 rfl);kernel_rfl;kernel_rfl)|refine aO.cf ?_|(apply aO.go)|refine aC.bQ ?_|(apply aC.bi;rfl;(apply aQ.q true;rfl;rfl;first|exact True.intro|omega);exact fun _ _ _ h=>h;(iterate 6 rfl);kernel_rfl;kernel_rfl)|refine aC.aH (ic) ?_|refine aC.dw ?_|(apply aC.iC;rfl;kernel_rfl)|refine bB.dw ?_|(apply aC.back)|(exact aa.cL)|(apply aa.bV;(repeat' (first|exact bz.nil|(apply bz.cons;rfl)));rfl)|refine aa.bh true ?_|refine aa.az [2] ( cb) ?_|refine aa.ah (ic) ?_|refine aa.aW ?_|refine aa.ae ?_|refine aa.af ?_|refine aa.au ?_|refine aa.ai ?_|refine aa.ba ?_|refine aa.aA ?_|refine aa.aj ?_|refine aa.bL ?_|refine aa.bq ?_|refine aa.aB ?_|apply aa.cK|apply aa.lpU|intro _|refine aa.av ?_)
   all_goals first|exact⟨rfl,rfl⟩|omega
  ·have hI:bf 4=true:=rfl
   have hS:dP 4=true:=rfl
   rw[hI]at ic cb
   simp only[hI,hS,if_true]
   have st1:=stc (p+u) (by omega)
   have su1:=Kg (B:=ak s (p+u))
   generalize stN (ak s (p+u))=t at *
   obtain⟨sp,se,su⟩:=t
   simp only at st1 su1 ⊢
   by_cases hse:se=0
   ·subst hse
    simp only[not_true_eq_false,if_false,if_true]
    simp only[←Nat.add_assoc]
    refine ACalls.en Tryz.func267 Tryz.ntmps267 ?_
    repeat' (first|refine aa.aD ?_|(apply aa.cg [0,1,2,3,4,5,6,7,8,9,10,11,12,13,14] 15 9;rfl)|(apply aa.cg [0,1,2,3,4,5,6,7,8,9,10,11,12] 13 12;rfl)|(apply aO.bi;rfl;(apply aQ.q true;rfl;rfl;first|exact True.intro|omega);exact fun _ _ _ h=>h;(iterate 6 rfl);kernel_rfl;kernel_rfl)|refine aO.cf ?_|(apply aO.go)|refine aC.bQ ?_|(apply aC.bi;rfl;(apply aQ.q true;rfl;rfl;first|exact True.intro|omega);exact fun _ _ _ h=>h;(iterate 6 rfl);kernel_rfl;kernel_rfl)|refine aC.aH (ic) ?_|refine aC.dw ?_|(apply aC.iC;rfl;kernel_rfl)|refine bB.dw ?_|(apply aC.back)|(exact aa.cL)|(apply aa.bV;(repeat' (first|exact bz.nil|(apply bz.cons;rfl)));rfl)|refine aa.bh true ?_|refine aa.az [2] ( cb) ?_|refine aa.az [2] ( st1) ?_|refine aa.ah (ic) ?_|refine aa.aW ?_|refine aa.ae ?_|refine aa.af ?_|refine aa.au ?_|refine aa.ai ?_|refine aa.ba ?_|refine aa.aA ?_|refine aa.aj ?_|refine aa.bL ?_|refine aa.bq ?_|refine aa.aB ?_|apply aa.cK|apply aa.lpU|intro _|refine aa.av ?_)
    all_goals first|exact⟨rfl,rfl⟩|omega
   ·rw[if_pos hse]
    obtain⟨rfl,rfl⟩:=su1 hse
    rw[Nat.add_zero]at st1
    refine ACalls.en Tryz.func267 Tryz.ntmps267 ?_
    repeat' (first|refine aa.aD ?_|(apply aa.cg [0,1,2,3,4,5,6,7,8,9,10,11,12,13,14] 15 9;rfl)|(apply aa.cg [0,1,2,3,4,5,6,7,8,9,10,11,12] 13 12;rfl)|(apply aO.bi;rfl;(apply aQ.q true;rfl;rfl;first|exact True.intro|omega);exact fun _ _ _ h=>h;(iterate 6 rfl);kernel_rfl;kernel_rfl)|refine aO.cf ?_|(apply aO.go)|refine aC.bQ ?_|(apply aC.bi;rfl;(apply aQ.q true;rfl;rfl;first|exact True.intro|omega);exact fun _ _ _ h=>h;(iterate 6 rfl);kernel_rfl;kernel_rfl)|refine aC.aH (ic) ?_|refine aC.dw ?_|(apply aC.iC;rfl;kernel_rfl)|refine bB.dw ?_|(apply aC.back)|(exact aa.cL)|(apply aa.bV;(repeat' (first|exact bz.nil|(apply bz.cons;rfl)));rfl)|refine aa.bh true ?_|refine aa.az [2] ( cb) ?_|refine aa.az [2] ( st1) ?_|refine aa.ah (ic) ?_|refine aa.aW ?_|refine aa.ae ?_|refine aa.af ?_|refine aa.au ?_|refine aa.ai ?_|refine aa.ba ?_|refine aa.aA ?_|refine aa.aj ?_|refine aa.bL ?_|refine aa.bq ?_|refine aa.aB ?_|apply aa.cK|apply aa.lpU|intro _|refine aa.av ?_)
    all_goals first|exact⟨rfl,rfl⟩|omega
 ·rw[if_pos he]
  obtain rfl:=cu he
  simp only
  rcases hk with rfl|rfl|rfl|rfl
  all_goals
   refine ACalls.en Tryz.func267 Tryz.ntmps267 ?_
   repeat' (first|refine aa.aD ?_|(apply aa.cg [0,1,2,3,4,5,6,7,8,9,10,11,12,13,14] 15 9;rfl)|(apply aa.cg [0,1,2,3,4,5,6,7,8,9,10,11,12] 13 12;rfl)|(apply aO.bi;rfl;(apply aQ.q true;rfl;rfl;first|exact True.intro|omega);exact fun _ _ _ h=>h;(iterate 6 rfl);kernel_rfl;kernel_rfl)|refine aO.cf ?_|(apply aO.go)|refine aC.bQ ?_|(apply aC.bi;rfl;(apply aQ.q true;rfl;rfl;first|exact True.intro|omega);exact fun _ _ _ h=>h;(iterate 6 rfl);kernel_rfl;kernel_rfl)|refine aC.aH (ic) ?_|refine aC.dw ?_|(apply aC.iC;rfl;kernel_rfl)|refine bB.dw ?_|(apply aC.back)|(exact aa.cL)|(apply aa.bV;(repeat' (first|exact bz.nil|(apply bz.cons;rfl)));rfl)|refine aa.bh true ?_|refine aa.az [2] ( cb) ?_|refine aa.ah (ic) ?_|refine aa.aW ?_|refine aa.ae ?_|refine aa.af ?_|refine aa.au ?_|refine aa.ai ?_|refine aa.ba ?_|refine aa.aA ?_|refine aa.aj ?_|refine aa.bL ?_|refine aa.bq ?_|refine aa.aB ?_|apply aa.cK|apply aa.lpU|intro _|refine aa.av ?_)
   all_goals first|exact⟨rfl,rfl⟩|omega
end Ci
end Go.Proofs.YtbpednchkndocaaGreatDoor.Av
