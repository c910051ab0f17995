/- Cells are read: cellin.Take. Cells are read: cellin.Take, walked. -/
import Derived.Test.YtbpednchkndocaaGreatDoorCi4
set_option linter.unusedVariables false
set_option linter.unusedSimpArgs false
set_option maxRecDepth 100000
set_option maxHeartbeats 64000000
namespace Go.Proofs.YtbpednchkndocaaGreatDoor.Av
namespace Ci
open Go Bt Tc Co Bl
attribute [local irreducible] aa ACalls aW aK bP aT
variable {gl:List (Nat×List D)}
abbrev Sz(st:Int)(sk:Bool):D := .agg [In st, .bool sk,In 0,In 0,In 0,In 0,In 0,In 0,In 0,In 0,In 0,In 0, .aU, .aU, .aU, .aU, .aU, .aU]
abbrev Sy(st:Int)(sk:Bool):Cel:=⟨st,sk,0,0,0,0,0,0,0,0,0,0,[],[],[],[],[],[]⟩
theorem xY{cs ds:List D}(hl:ds.length=cs.length)(hone:∀d∈ds,d.one=true)(h:∀(i:Nat) (c d:D),cs[i]?=some c→ds[i]?=some d→bW c d):bW (.agg cs) (.agg ds):=fun imm v hv=>by
 cases hv with
 |agg vs _ hl0 hone0 h0 =>
  refine .agg vs _ (hl0.trans hl.symm) hone fun i d hd=>?_
  have hi:i<cs.length:=by rw[←hl];exact aI hd
  have hc:cs[i]?=some cs[i]:=List.getElem?_eq_getElem hi;exact h i _ d hc hd imm _ (h0 i _ hc)
theorem oU(st:Int)(sk:Bool):bW (Sz st sk) (kU (Sy st sk)):=xY rfl (by simp[D.one]) (fun i c d hc hd=>by
 have hn:bW .aU (evS []):=bW.aU 3
 match i,hc,hd with
 |0,hc,hd|1,hc,hd|2,hc,hd|3,hc,hd|4,hc,hd|5,hc,hd|6,hc,hd|7,hc,hd|8,hc,hd|9,hc,hd|10,hc,hd|11,hc,hd=>cases hc;cases hd;exact bW.refl _
 |12,hc,hd|13,hc,hd|14,hc,hd|15,hc,hd|16,hc,hd|17,hc,hd=>cases hc;cases hd;exact hn
 |i+18,hc,hd=>simp at hc)
theorem J1(b:Bool)(B:List Int)(h:(mbN b B).2.2.1=0):((mbN b B).1=0∨(mbN b B).1=1∨(mbN b B).1=3∨(mbN b B).1=4∨(mbN b B).1=5)∧0≤(mbN b B).2.1∧(mbN b B).2.1≤3:=by
 have hb:=Mv.mP (Mb.lq b) (B.map cn) [];rw[Mb.xj]at hb;unfold mbN Mb.mbX at h ⊢;generalize dB (Mb.lq b) (B.map cn) []=y at *;obtain⟨i,e,c⟩:=y;simp only at hb h ⊢;by_cases h1:e=0
 ·rw[if_pos h1]at h ⊢;have hb:=hb h1;by_cases h2:(i+(if b=true then 0 else 12))/4=2
  ·rw[if_pos h2]at h;cases h
  ·rw[if_neg h2];simp only;cases b
   ·simp only[Bool.false_eq_true,if_false]at hb h2 ⊢;omega
   ·simp only[if_true]at hb h2 ⊢;omega
 ·rw[if_neg h1]at h;exact absurd h h1
structure HdB(B:List Int)(h:HdR):Prop where
 le:h.used≤B.length
 sk:h.skip=true→h.kind=0
 ki:h.err=0→h.skip=false→(h.kind=0∨h.kind=1∨h.kind=3∨h.kind=4)∧0≤h.chr∧h.chr≤3
theorem Kn(b:Bool)(B:List Int)(n:Int)(k:Nat)(y:HdR)(hk:k≤B.length)(hy:HdB (B.drop (k+(mbN b (B.drop k)).2.2.2)) y):HdB B (hdK n k (mbN b (B.drop k)) y):=by
 have hl:=El b (B.drop k);have hkd:=J1 b (B.drop k);rw[List.length_drop]at hl;obtain⟨y1,y2,y3⟩:=hy;rw[List.length_drop]at y1;generalize mbN b (B.drop k)=x at *;unfold hdK;by_cases h0:x.2.2.1≠0
 ·rw[if_pos h0];exact⟨hk,fun _=>rfl,fun h=>absurd h h0⟩
 ·rw[if_neg h0];obtain⟨k1,k2⟩:=hkd (by simpa using h0);by_cases h5:x.1≠5
  ·rw[if_pos h5];exact⟨by simp only;omega,fun h=>(by cases h),fun _ _=>⟨by simp only;omega,k2⟩⟩
  ·rw[if_neg h5];by_cases h64:n=64
   ·rw[if_pos h64];exact⟨by simp only;omega,fun _=>rfl,fun h=>(by cases h)⟩
   ·rw[if_neg h64];exact⟨by simp only;omega,y2,y3⟩
theorem xu(b:Bool):∀(f:Nat) (n:Int) (B:List Int),HdB B (hdX b f n B)
 |0,n,B=>⟨Nat.zero_le _,fun _=>rfl,fun h=>(by cases h)⟩
 | f + 1, n, B => by
  rw[hdX];cases b with
  |false =>
   simp only[Bool.false_eq_true,if_false];have:=Kn false B n 0 _ (Nat.zero_le _) (xu false f (n+1) _);simp only[List.drop_zero,Nat.zero_add]at this;exact this
  | true =>
   simp only[if_true];by_cases h0:B=[]
   ·rw[if_pos h0];exact⟨Nat.zero_le _,fun _=>rfl,fun h=>(by cases h)⟩
   ·rw[if_neg h0];have hl:1≤B.length:=by
     cases B with
     |nil=>exact absurd rfl h0
     |cons _ _=>simp
    by_cases h1:B.getD 0 0=1
    ·rw[if_pos h1];exact⟨hl,fun _=>rfl,fun _ h=>(by cases h)⟩
    ·rw[if_neg h1];exact Kn true B n 1 _ hl (xu true f (n+1) _)
theorem Oj(b:Bool)(B:List Int):0≤(cbN b B).1∧(cbN b B).1≤15:=by
 have hb:=Mv.mP Cb.cbR (B.map cn) [];have hl:Cb.cbR.length=16:=rfl;unfold cbN Cb.cbX;simp only;split
 ·rename_i h;exact Cb.zP b _ (by have:=hb h;omega)
 ·omega
theorem Na(k px py:Int)(B:List Int):0≤(mdX k px py B).pat∧(mdX k px py B).pat≤15:=by
 have:=Oj (aL k) B;have hm:∀st q,(mdM k px py B (cbN (aL k) B).1 st q).pat=(cbN (aL k) B).1:=fun st q=>by
  unfold mdM;split
  ·rfl
  ·split<;>rfl
 unfold mdX;split
 ·exact this
 ·split
  ·split
   ·exact this
   ·rw[hm];exact this
  ·rw[hm];exact this
theorem JS(k px py:Int)(s:List UInt8)(p:Nat)(pat st:Int)(q:Nat)(hq:p+q≤8*s.length):p+(mdM k px py (aG s p) pat st q).used≤8*s.length:=by
 have h1:=Ap (fJ s (p+q));have h2:=Ap (fJ s (p+(q+(mvN (aG s (p+q))).2.2)));rw[dN]at h1 h2;unfold mdM;simp only[dM];split
 ·exact hq
 ·split
  ·exact hq
  ·simp only;omega
theorem JQ(k px py:Int)(s:List UInt8)(p:Nat)(hp:p≤8*s.length):p+(mdX k px py (aG s p)).used≤8*s.length:=by
 have h1:=EH (aL k) (aG s p);have h2:=IW (aG s (p+(cbN (aL k) (aG s p)).2.2));rw[dN]at h1 h2;unfold mdX;simp only[dM];split
 ·exact hp
 ·split
  ·split
   ·simp only;omega
   ·exact JS k px py s p _ _ _ (by omega)
  ·exact JS k px py s p _ _ _ (by omega)
theorem zE(b:Bool)(s:List UInt8)(p q:Nat):∀(cs:List Bool) (r:Nat),bdX b cs (aG s p) (q+r)=((bdX b cs (aG s (p+q)) r).1,(bdX b cs (aG s (p+q)) r).2.1,q+(bdX b cs (aG s (p+q)) r).2.2)
 |[],r=>rfl
 |c::cs,r=>by
  rw[bdX,bdX,dM,dM,←Nat.add_assoc p q r];by_cases h:(blX b c (aG s (p+q+r))).2.2.1≠0
  ·rw[if_pos h,if_pos h]
  ·rw[if_neg h,if_neg h,Nat.add_assoc q r,zE b s p q cs]
theorem Gw(b:Bool)(s:List UInt8)(p:Nat):∀(cs:List Bool) (r:Nat),(bdX b cs (aG s p) r).2.1=0→(bdX b cs (aG s p) r).1.length=cs.length
 |[],r,_=>rfl
 | c :: cs, r, h => by
  rw[bdX]at h ⊢;by_cases h0:(blX b c ((aG s p).drop r)).2.2.1≠0
  ·rw[if_pos h0]at h;exact absurd h h0
  ·rw[if_neg h0]at h ⊢;simp only[List.length_cons];rw[Gw b s p cs _ h]
end Ci
namespace Ci
open Go Bt Tc Co Bl
attribute [local irreducible] aa ACalls aW aK bP aT
variable {gl:List (Nat×List D)}
theorem PQ(a c:Int)(ha:0≤a∧a≤15)(hc:0≤c∧c≤3):(((a*2^2).toNat |||c.toNat:Nat):Int)=4*a+c:=by
 obtain⟨n,rfl⟩:=Int.eq_ofNat_of_zero_le ha.1;obtain⟨m,rfl⟩:=Int.eq_ofNat_of_zero_le hc.1;have e:((n:Int)*2^2).toNat=2^2*n:=by omega
 rw[e,Int.toNat_natCast];have:=Nat.two_pow_add_eq_or_of_lt (i:=2) (b:=m) (by omega) n;rw[←this];omega
theorem Lj(e v q:Int)(cs:List AV)(s:List UInt8)(he:e≠0)(hb:dZ 3 ([Rr 2 e, .cells cs,Rd s q].take 3)=true):ACalls (cxg gl) 268 [.ptr 0 0, .ptr 1 0,I v] [Rr 2 e, .cells cs,Rd s q] (fun r H=>r = .cH []∧H=[Rr 2 e, .cells cs,Rd s q]):=by
 refine ACalls.en Tryz.func268 Tryz.ntmps268 ?_;repeat' (first|refine aa.aF ?_|refine aa.bh true ?_|refine aa.ah ?_|refine aa.aQ ?_|(((apply aa.Jm;rfl;rfl;rfl;exact hb)))|apply aa.di|intro _|refine aa.aA ?_)
 all_goals exact Tp
attribute [local irreducible] aG Tc.bS hdX mdX bdX
theorem K8(b:Bool)(px py:Int)(s:List UInt8)(p:Nat)(hpx:I64 px)(hpy:I64 py)(hs:s.length≤1000000)(hp:p≤8*s.length):
  ACalls (cxg gB) 236 [.ptr 0 0,B b, .d (.agg [In px,In py])] [Rd s p]
  (fun r H=>r = .cH [.d (kU (jb b px py (aG s p)).1),I (jb b px py (aG s p)).2.1]∧H=[Rd s ((p+(jb b px py (aG s p)).2.2:Nat):Int)]):=by
 have e00:bS []=[]:=by unfold Tc.bS;rfl
 have a0:=ui (gl:=gB) s p;have hd:=NY b s p hs hp;have hB:=xu b 65 0 (aG s p);have hBl:=dN s p;unfold jb Dc;generalize hdX b 65 0 (aG s p)=h at *;obtain⟨h1,h2,h3⟩:=hB;rw[hBl]at h1;obtain⟨st,sk,k,ch,e,u⟩:=h;simp only at hd h1 h2 h3 ⊢;have sk0:=fun c:Int=>gI (gl:=gB) s c p (by omega) ⟨by omega,by omega⟩
 by_cases he:e=0
 ·subst he;simp only[ne_eq,not_true_eq_false,if_false];cases sk with
  |true =>
   obtain rfl:=h2 rfl;simp only[if_true];refine ACalls.en Tryz.func236 Tryz.ntmps236 ?_;repeat' (first|refine aa.aF ?_|refine aa.bh true ?_|refine aa.aj [0] (a0) ?_|refine aa.aj [3,4,0] (hd) ?_|refine aa.aB ?_|refine aa.ak ?_|refine aa.aH ?_|refine aa.aM ?_|refine aa.aD ?_|refine aa.bG ?_|refine aa.aQ ?_|(apply aa.nP (.cH [.d (kU (Sy st true)),I 0]);rfl;exact cJ.cH ⟨cJ.d (oU st true),cJ.refl _,trivial⟩;rfl;rfl;rfl)|intro _|refine aa.aA ?_)
   all_goals exact Tn
  | false =>
   obtain⟨hk,hch⟩:=h3 rfl rfl;simp only[Bool.false_eq_true,if_false];have md:=QD st k px py s (p+u) hk hpx hpy hs (by omega);have mp:=Na k px py (aG s (p+u));have ml:=JQ k px py s (p+u) (by omega);rw[dM];generalize mdX k px py (aG s (p+u))=M at *;obtain⟨pat,sp,mx,my,me,mu⟩:=M;simp only at md mp ml ⊢;have hor:=PQ pat ch mp hch;by_cases hm:me=0
   ·subst hm;simp only[not_true_eq_false,if_false];have bd:=Oc st k sp mx my (4*pat+ch) s (p+u+mu) hs (by omega) (by omega);have bs:=zE (aL k) s (p+u) mu (cds (4*pat+ch)) 0;have bn:=Gw (aL k) s (p+u+mu) (cds (4*pat+ch)) 0;rw[Nat.add_zero]at bs;rw[bs];generalize bdX (aL k) (cds (4*pat+ch)) (aG s (p+u+mu)) 0=Y at *;obtain⟨L,be,bu⟩:=Y;simp only at bd bn ⊢;rw[←hor]at bd;by_cases hbe:be=0
    ·subst hbe;simp only[if_true,not_true_eq_false,if_false]at bd ⊢;have hL:L.length=6:=bn rfl
     match L,hL with
     |[b0,b1,b2,b3,b4,b5],_ =>
      simp only[←Nat.add_assoc];refine ACalls.en Tryz.func236 Tryz.ntmps236 ?_;repeat' (first|refine aa.aF ?_|refine aa.bh true ?_|refine aa.aj [0] (a0) ?_|refine aa.aj [3,4,0] (hd) ?_|refine aa.aj [3,4,0] (md) ?_|refine aa.aj [3,4,0] (bd) ?_|refine aa.aB ?_|refine aa.ak ?_|refine aa.aH ?_|refine aa.aM ?_|refine aa.aD ?_|refine aa.bG ?_|refine aa.aQ ?_|intro _|refine aa.aA ?_)
      all_goals exact Tn
    ·simp only[if_neg hbe,if_pos hbe,Nat.add_zero]at bd ⊢;generalize EE st k sp mx my (L++[(0,[])])=CS at *;refine ACalls.en Tryz.func236 Tryz.ntmps236 ?_;repeat' (first|refine aa.aF ?_|(apply aa.gu [0,1,2,3,4,5,6] 7;rfl)|refine aT.cL ?_|(apply aT.go)|refine aT.ku true ?_|refine aT.gq ?_|(apply aT.two;rfl;rfl;rfl;kernel_rfl)|(exact aa.fg)|(refine aa.bv ?_;rfl)|refine aa.bh true ?_|refine aa.aj [0] (a0) ?_|refine aa.aj [3,4,0] (hd) ?_|refine aa.aj [3,4,0] (md) ?_|refine aa.aj [3,4,0] (bd) ?_|refine aa.aj [0] (sk0 _) ?_|refine aa.aB ?_|refine aa.ak ?_|refine aa.aH ?_|refine aa.aM ?_|refine aa.aD ?_|refine aa.bG ?_|refine aa.aQ ?_|(apply aa.nP (.cH [.d (kU EF),I be]);rfl;exact cJ.cH ⟨cJ.d (oU 0 false),cJ.refl _,trivial⟩;rfl;rfl;rfl)|intro _|refine aa.aA ?_)
     all_goals exact Tn
   ·rw[if_pos hm];simp only[Nat.add_zero];have be:=fun v=>Lj (gl:=gB) me v ((p+u+mu:Nat):Int) (QJ st k sp mx my) s hm rfl
    refine ACalls.en Tryz.func236 Tryz.ntmps236 ?_;repeat' (first|refine aa.aF ?_|(apply aa.gu [0,1,2,3,4,5,6] 7;rfl)|refine aT.cL ?_|(apply aT.go)|refine aT.ku true ?_|refine aT.gq ?_|(apply aT.two;rfl;rfl;rfl;kernel_rfl)|(exact aa.fg)|(refine aa.bv ?_;rfl)|refine aa.bh true ?_|refine aa.aj [0] (a0) ?_|refine aa.aj [3,4,0] (hd) ?_|refine aa.aj [3,4,0] (md) ?_|refine aa.aj [3,4,0] (be _) ?_|refine aa.aj [0] (sk0 _) ?_|refine aa.aB ?_|refine aa.ak ?_|refine aa.aH ?_|refine aa.aM ?_|refine aa.aD ?_|refine aa.bG ?_|refine aa.aQ ?_|(apply aa.nP (.cH [.d (kU EF),I me]);rfl;exact cJ.cH ⟨cJ.d (oU 0 false),cJ.refl _,trivial⟩;rfl;rfl;rfl)|intro _|refine aa.aA ?_)
    all_goals exact Tn
 ·rw[if_pos he];simp only[decide_eq_false he,Bool.false_and,Nat.add_zero]at hd ⊢;refine ACalls.en Tryz.func236 Tryz.ntmps236 ?_;repeat' (first|refine aa.aF ?_|(apply aa.gu [0,1,2,3,4,5,6] 7;rfl)|refine aT.cL ?_|(apply aT.go)|refine aT.ku true ?_|refine aT.gq ?_|(apply aT.two;rfl;rfl;rfl;kernel_rfl)|(exact aa.fg)|(refine aa.bv ?_;rfl)|refine aa.bh true ?_|refine aa.aj [0] (a0) ?_|refine aa.aj [3,4,0] (hd) ?_|refine aa.aj [0] (sk0 _) ?_|refine aa.aB ?_|refine aa.ak ?_|refine aa.aH ?_|refine aa.aM ?_|refine aa.aD ?_|refine aa.bG ?_|refine aa.aQ ?_|(apply aa.nP (.cH [.d (kU EF),I e]);rfl;exact cJ.cH ⟨cJ.d (oU 0 false),cJ.refl _,trivial⟩;rfl;rfl;rfl)|intro _|refine aa.aA ?_)
  all_goals exact Tn
end Ci
end Go.Proofs.YtbpednchkndocaaGreatDoor.Av
