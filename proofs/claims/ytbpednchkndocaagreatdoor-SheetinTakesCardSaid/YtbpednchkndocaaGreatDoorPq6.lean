/- Cells are read: cellin.Take. Cells are read: cellin.Take, walked. -/
import Derived.Test.YtbpednchkndocaaGreatDoorCi4
set_option linter.unusedVariables false
set_option linter.unusedSimpArgs false
set_option maxRecDepth 100000
set_option maxHeartbeats 64000000
namespace Go.Proofs.YtbpednchkndocaaGreatDoor.Av
namespace Ci
open Go Bt Tc Co Bl
attribute [local irreducible] aa ACalls aO aC bB aR
variable {gl:List (Nat×List D)}
abbrev NM (st:Int) (sk:Bool):D := .agg [In st, .bool sk,In 0,In 0,In 0,In 0,In 0,In 0,In 0,In 0,In 0,In 0, .aY, .aY, .aY, .aY, .aY, .aY]
abbrev Ms (st:Int) (sk:Bool):Cel:=⟨st,sk,0,0,0,0,0,0,0,0,0,0,[],[],[],[],[],[]⟩
theorem vJ {cs ds:List D} (hl:ds.length=cs.length) (hone:∀d∈ds,d.one=true) (h:∀(i:Nat) (c d:D),cs[i]?=some c→ds[i]?=some d→d9 c d):d9 (.agg cs) (.agg ds):=fun imm v hv=>by
 cases hv with
 |agg vs _ hl0 hone0 h0 =>
  refine .agg vs _ (hl0.trans hl.symm) hone fun i d hd=>?_
  have hi:i<cs.length:=by rw[←hl];exact aJ hd
  have hc:cs[i]?=some cs[i]:=List.getElem?_eq_getElem hi
  exact h i _ d hc hd imm _ (h0 i _ hc)
theorem cJ (st:Int) (sk:Bool):d9 (NM st sk) (gz (Ms st sk)):=vJ rfl (by simp[D.one]) (fun i c d hc hd=>by
 have hn:d9 .aY (evS []):=d9.aY 3
 match i,hc,hd with
 |0,hc,hd|1,hc,hd|2,hc,hd|3,hc,hd|4,hc,hd|5,hc,hd|6,hc,hd|7,hc,hd|8,hc,hd|9,hc,hd|10,hc,hd|11,hc,hd=>cases hc;cases hd;exact d9.refl _
 |12,hc,hd|13,hc,hd|14,hc,hd|15,hc,hd|16,hc,hd|17,hc,hd=>cases hc;cases hd;exact hn
 |i+18,hc,hd=>simp at hc)
theorem zZ (b:Bool) (B:List Int) (h:(mbN b B).2.2.1=0):((mbN b B).1=0∨(mbN b B).1=1∨(mbN b B).1=3∨(mbN b B).1=4∨(mbN b B).1=5)∧0≤(mbN b B).2.1∧(mbN b B).2.1≤3:=by
 have hb:=Mv.iR (Mb.iF b) (B.map bM) []
 rw[Mb.nN]at hb
 unfold mbN Mb.mbX at h ⊢
 generalize cV (Mb.iF b) (B.map bM) []=y at *
 obtain⟨i,e,c⟩:=y
 simp only at hb h ⊢
 by_cases h1:e=0
 ·rw[if_pos h1]at h ⊢
  have hb:=hb h1
  by_cases h2:(i+(if b=true then 0 else 12)) / 4=2
  ·rw[if_pos h2]at h;cases h
  ·rw[if_neg h2]
   simp only
   cases b
   ·simp only[Bool.false_eq_true,if_false]at hb h2 ⊢;omega
   ·simp only[if_true]at hb h2 ⊢;omega
 ·rw[if_neg h1]at h;exact absurd h h1
structure HdB (B:List Int) (h:HdR):Prop where
 le:h.used≤B.length
 sk:h.skip=true→h.kind=0
 ki:h.err=0→h.skip=false→(h.kind=0∨h.kind=1∨h.kind=3∨h.kind=4)∧0≤h.chr∧h.chr≤3
theorem G3 (b:Bool) (B:List Int) (n:Int) (k:Nat) (y:HdR) (hk:k≤B.length) (hy:HdB (B.drop (k+(mbN b (B.drop k)).2.2.2)) y):HdB B (hdK n k (mbN b (B.drop k)) y):=by
 have hl:=xW b (B.drop k)
 have hkd:=zZ b (B.drop k)
 rw[List.length_drop]at hl
 obtain⟨y1,y2,y3⟩:=hy
 rw[List.length_drop]at y1
 generalize mbN b (B.drop k)=x at *
 unfold hdK
 by_cases h0:x.2.2.1≠0
 ·rw[if_pos h0];exact⟨hk,fun _=>rfl,fun h=>absurd h h0⟩
 ·rw[if_neg h0]
  obtain⟨k1,k2⟩:=hkd (by simpa using h0)
  by_cases h5:x.1≠5
  ·rw[if_pos h5]
   exact⟨by simp only;omega,fun h=>(by cases h),fun _ _=>⟨by simp only;omega,k2⟩⟩
  ·rw[if_neg h5]
   by_cases h64:n=64
   ·rw[if_pos h64];exact⟨by simp only;omega,fun _=>rfl,fun h=>(by cases h)⟩
   ·rw[if_neg h64];exact⟨by simp only;omega,y2,y3⟩
theorem rK (b:Bool):∀(f:Nat) (n:Int) (B:List Int),HdB B (hdX b f n B)
 |0,n,B=>⟨Nat.zero_le _,fun _=>rfl,fun h=>(by cases h)⟩
 |f+1,n,B=>by
  rw[hdX]
  cases b with
  |false =>
   simp only[Bool.false_eq_true,if_false]
   have:=G3 false B n 0 _ (Nat.zero_le _) (rK false f (n+1) _)
   simp only[List.drop_zero,Nat.zero_add]at this
   exact this
  |true =>
   simp only[if_true]
   by_cases h0:B=[]
   ·rw[if_pos h0];exact⟨Nat.zero_le _,fun _=>rfl,fun h=>(by cases h)⟩
   ·rw[if_neg h0]
    have hl:1≤B.length:=by
     cases B with
     |nil=>exact absurd rfl h0
     |cons _ _=>simp
    by_cases h1:B.getD 0 0=1
    ·rw[if_pos h1];exact⟨hl,fun _=>rfl,fun _ h=>(by cases h)⟩
    ·rw[if_neg h1]
     exact G3 true B n 1 _ hl (rK true f (n+1) _)
theorem qU (b:Bool) (B:List Int):0≤(cbN b B).1∧(cbN b B).1≤15:=by
 have hb:=Mv.iR Cb.cbR (B.map bM) []
 have hl:Cb.cbR.length=16:=rfl
 unfold cbN Cb.cbX
 simp only
 split
 ·rename_i h
  exact Cb.Fg b _ (by have:=hb h;omega)
 ·omega
theorem Jh (k px py:Int) (B:List Int):0≤(mdX k px py B).pat∧(mdX k px py B).pat≤15:=by
 have:=qU (bf k) B
 have hm:∀st q,(mdM k px py B (cbN (bf k) B).1 st q).pat=(cbN (bf k) B).1:=fun st q=>by
  unfold mdM
  split
  ·rfl
  ·split<;>rfl
 unfold mdX
 split
 ·exact this
 ·split
  ·split
   ·exact this
   ·rw[hm];exact this
  ·rw[hm];exact this
theorem Gy (k px py:Int) (s:List UInt8) (p:Nat) (pat st:Int) (q:Nat) (hq:p+q≤8*s.length):p+(mdM k px py (ak s p) pat st q).used≤8*s.length:=by
 have h1:=nL (cO s (p+q))
 have h2:=nL (cO s (p+(q+(mvN (ak s (p+q))).2.2)))
 rw[bY]at h1 h2
 unfold mdM
 simp only[bX]
 split
 ·exact hq
 ·split
  ·exact hq
  ·simp only;omega
theorem Gw (k px py:Int) (s:List UInt8) (p:Nat) (hp:p≤8*s.length):p+(mdX k px py (ak s p)).used≤8*s.length:=by
 have h1:=pX (bf k) (ak s p)
 have h2:=xn (ak s (p+(cbN (bf k) (ak s p)).2.2))
 rw[bY]at h1 h2
 unfold mdX
 simp only[bX]
 split
 ·exact hp
 ·split
  ·split
   ·simp only;omega
   ·exact Gy k px py s p _ _ _ (by omega)
  ·exact Gy k px py s p _ _ _ (by omega)
theorem xa (b:Bool) (s:List UInt8) (p q:Nat):∀(cs:List Bool) (r:Nat),bdX b cs (ak s p) (q+r)=((bdX b cs (ak s (p+q)) r).1,(bdX b cs (ak s (p+q)) r).2.1,q+(bdX b cs (ak s (p+q)) r).2.2)
 |[],r=>rfl
 |c::cs,r=>by
  rw[bdX,bdX,bX,bX,←Nat.add_assoc p q r]
  by_cases h:(blX b c (ak s (p+q+r))).2.2.1≠0
  ·rw[if_pos h,if_pos h]
  ·rw[if_neg h,if_neg h,Nat.add_assoc q r,xa b s p q cs]
theorem DF (b:Bool) (s:List UInt8) (p:Nat):∀(cs:List Bool) (r:Nat),(bdX b cs (ak s p) r).2.1=0→(bdX b cs (ak s p) r).1.length=cs.length
 |[],r,_=>rfl
 |c::cs,r,h=>by
  rw[bdX]at h ⊢
  by_cases h0:(blX b c ((ak s p).drop r)).2.2.1≠0
  ·rw[if_pos h0]at h;exact absurd h h0
  ·rw[if_neg h0]at h ⊢
   simp only[List.length_cons]
   rw[DF b s p cs _ h]
end Ci
namespace Ci
open Go Bt Tc Co Bl
attribute [local irreducible] aa ACalls aO aC bB aR
variable {gl:List (Nat×List D)}
theorem LB (a c:Int) (ha:0≤a∧a≤15) (hc:0≤c∧c≤3):(((a*2^2).toNat |||c.toNat:Nat):Int)=4*a+c:=by
 obtain⟨n,rfl⟩:=Int.eq_ofNat_of_zero_le ha.1
 obtain⟨m,rfl⟩:=Int.eq_ofNat_of_zero_le hc.1
 have e:((n:Int)*2^2).toNat=2^2*n:=by omega
 rw[e,Int.toNat_natCast]
 have:=Nat.two_pow_add_eq_or_of_lt (i:=2) (b:=m) (by omega) n
 rw[←this];omega
theorem HZ (e v q:Int) (cs:List AV) (s:List UInt8) (he:e≠0) (hb:dG 3 ([Rr 2 e, .cells cs,Rd s q].take 3)=true):ACalls (cxg gl) 268 [.ptr 0 0, .ptr 1 0,I v] [Rr 2 e, .cells cs,Rd s q] (fun r H=>r = .bK []∧H=[Rr 2 e, .cells cs,Rd s q]):=by
 refine ACalls.en Tryz.func268 Tryz.ntmps268 ?_
 repeat' (first|refine aa.aD ?_|refine aa.bh true ?_|refine aa.ae ?_|refine aa.aK ?_|(((apply aa.zy;rfl;rfl;rfl;exact hb)))|apply aa.cK|intro _|refine aa.av ?_)
 all_goals first|exact⟨rfl,rfl⟩
attribute [local irreducible] ak Tc.cn hdX mdX bdX
theorem HV (b:Bool) (px py:Int) (s:List UInt8) (p:Nat) (hpx:I64 px) (hpy:I64 py) (hs:s.length≤1000000) (hp:p≤8*s.length) :
  ACalls (cxg gB) 236 [.ptr 0 0,B b, .d (.agg [In px,In py])] [Rd s p]
  (fun r H=>r = .bK [.d (gz (gy b px py (ak s p)).1),I (gy b px py (ak s p)).2.1]∧H=[Rd s ((p+(gy b px py (ak s p)).2.2:Nat):Int)]):=by
 have e00:cn []=[]:=by unfold Tc.cn;rfl
 have a0:=qX (gl:=gB) s p
 have hd:=JQ b s p hs hp
 have hB:=rK b 65 0 (ak s p)
 have hBl:=bY s p
 unfold gy kH
 generalize hdX b 65 0 (ak s p)=h at *
 obtain⟨h1,h2,h3⟩:=hB
 rw[hBl]at h1
 obtain⟨st,sk,k,ch,e,u⟩:=h
 simp only at hd h1 h2 h3 ⊢
 have sk0:=fun c:Int=>fG (gl:=gB) s c p (by omega) ⟨by omega,by omega⟩
 by_cases he:e=0
 ·subst he
  simp only[ne_eq,not_true_eq_false,if_false]
  cases sk with
  |true =>
   obtain rfl:=h2 rfl
   simp only[if_true]
   refine ACalls.en Tryz.func236 Tryz.ntmps236 ?_
   repeat' (first|refine aa.aD ?_|refine aa.bh true ?_|refine aa.az [0] ( a0) ?_|refine aa.az [3,4,0] ( hd) ?_|refine aa.au ?_|refine aa.ai ?_|refine aa.aG ?_|refine aa.ba ?_|refine aa.aA ?_|refine aa.aL ?_|refine aa.aK ?_|(apply aa.gN (.bK [.d (gz (Ms st true)),I 0]);rfl;exact aT.bK ⟨aT.d (cJ st true),aT.refl _,trivial⟩;rfl;rfl;rfl)|intro _|refine aa.av ?_)
   all_goals first|exact⟨rfl,rfl⟩|omega
  |false =>
   obtain⟨hk,hch⟩:=h3 rfl rfl
   simp only[Bool.false_eq_true,if_false]
   have md:=Mq st k px py s (p+u) hk hpx hpy hs (by omega)
   have mp:=Jh k px py (ak s (p+u))
   have ml:=Gw k px py s (p+u) (by omega)
   rw[bX]
   generalize mdX k px py (ak s (p+u))=M at *
   obtain⟨pat,sp,mx,my,me,mu⟩:=M
   simp only at md mp ml ⊢
   have hor:=LB pat ch mp hch
   by_cases hm:me=0
   ·subst hm
    simp only[not_true_eq_false,if_false]
    have bd:=JU st k sp mx my (4*pat+ch) s (p+u+mu) hs (by omega) (by omega)
    have bs:=xa (bf k) s (p+u) mu (cds (4*pat+ch)) 0
    have bn:=DF (bf k) s (p+u+mu) (cds (4*pat+ch)) 0
    rw[Nat.add_zero]at bs
    rw[bs]
    generalize bdX (bf k) (cds (4*pat+ch)) (ak s (p+u+mu)) 0=Y at *
    obtain⟨L,be,bu⟩:=Y
    simp only at bd bn ⊢
    rw[←hor]at bd
    by_cases hbe:be=0
    ·subst hbe
     simp only[if_true,not_true_eq_false,if_false]at bd ⊢
     have hL:L.length=6:=bn rfl
     match L,hL with
     |[b0,b1,b2,b3,b4,b5],_ =>
      simp only[←Nat.add_assoc]
      refine ACalls.en Tryz.func236 Tryz.ntmps236 ?_
      repeat' (first|refine aa.aD ?_|refine aa.bh true ?_|refine aa.az [0] ( a0) ?_|refine aa.az [3,4,0] ( hd) ?_|refine aa.az [3,4,0] ( md) ?_|refine aa.az [3,4,0] ( bd) ?_|refine aa.au ?_|refine aa.ai ?_|refine aa.aG ?_|refine aa.ba ?_|refine aa.aA ?_|refine aa.aL ?_|refine aa.aK ?_|intro _|refine aa.av ?_)
      all_goals first|exact⟨rfl,rfl⟩|omega
    ·simp only[if_neg hbe,if_pos hbe,Nat.add_zero]at bd ⊢
     generalize vA st k sp mx my (L++[(0,[])])=CS at *
     refine ACalls.en Tryz.func236 Tryz.ntmps236 ?_
     repeat' (first|refine aa.aD ?_|(apply aa.fZ [0,1,2,3,4,5,6] 7;rfl)|refine aR.bQ ?_|(apply aR.go)|refine aR.kx true ?_|refine aR.eO ?_|(apply aR.two;rfl;rfl;rfl;kernel_rfl)|(exact aa.cL)|(apply aa.bV;(repeat' (first|exact bz.nil|(apply bz.cons;rfl)));rfl)|refine aa.bh true ?_|refine aa.az [0] ( a0) ?_|refine aa.az [3,4,0] ( hd) ?_|refine aa.az [3,4,0] ( md) ?_|refine aa.az [3,4,0] ( bd) ?_|refine aa.az [0] ( sk0 _) ?_|refine aa.au ?_|refine aa.ai ?_|refine aa.aG ?_|refine aa.ba ?_|refine aa.aA ?_|refine aa.aL ?_|refine aa.aK ?_|(apply aa.gN (.bK [.d (gz lC),I be]);rfl;exact aT.bK ⟨aT.d (cJ 0 false),aT.refl _,trivial⟩;rfl;rfl;rfl)|intro _|refine aa.av ?_)
     all_goals first|exact⟨rfl,rfl⟩|omega
   ·rw[if_pos hm]
    simp only[Nat.add_zero]
    have be:=fun v=>HZ (gl:=gB) me v ((p+u+mu:Nat):Int) (Mt st k sp mx my) s hm rfl
    refine ACalls.en Tryz.func236 Tryz.ntmps236 ?_
    repeat' (first|refine aa.aD ?_|(apply aa.fZ [0,1,2,3,4,5,6] 7;rfl)|refine aR.bQ ?_|(apply aR.go)|refine aR.kx true ?_|refine aR.eO ?_|(apply aR.two;rfl;rfl;rfl;kernel_rfl)|(exact aa.cL)|(apply aa.bV;(repeat' (first|exact bz.nil|(apply bz.cons;rfl)));rfl)|refine aa.bh true ?_|refine aa.az [0] ( a0) ?_|refine aa.az [3,4,0] ( hd) ?_|refine aa.az [3,4,0] ( md) ?_|refine aa.az [3,4,0] ( be _) ?_|refine aa.az [0] ( sk0 _) ?_|refine aa.au ?_|refine aa.ai ?_|refine aa.aG ?_|refine aa.ba ?_|refine aa.aA ?_|refine aa.aL ?_|refine aa.aK ?_|(apply aa.gN (.bK [.d (gz lC),I me]);rfl;exact aT.bK ⟨aT.d (cJ 0 false),aT.refl _,trivial⟩;rfl;rfl;rfl)|intro _|refine aa.av ?_)
    all_goals first|exact⟨rfl,rfl⟩|omega
 ·rw[if_pos he]
  simp only[decide_eq_false he,Bool.false_and,Nat.add_zero]at hd ⊢
  refine ACalls.en Tryz.func236 Tryz.ntmps236 ?_
  repeat' (first|refine aa.aD ?_|(apply aa.fZ [0,1,2,3,4,5,6] 7;rfl)|refine aR.bQ ?_|(apply aR.go)|refine aR.kx true ?_|refine aR.eO ?_|(apply aR.two;rfl;rfl;rfl;kernel_rfl)|(exact aa.cL)|(apply aa.bV;(repeat' (first|exact bz.nil|(apply bz.cons;rfl)));rfl)|refine aa.bh true ?_|refine aa.az [0] ( a0) ?_|refine aa.az [3,4,0] ( hd) ?_|refine aa.az [0] ( sk0 _) ?_|refine aa.au ?_|refine aa.ai ?_|refine aa.aG ?_|refine aa.ba ?_|refine aa.aA ?_|refine aa.aL ?_|refine aa.aK ?_|(apply aa.gN (.bK [.d (gz lC),I e]);rfl;exact aT.bK ⟨aT.d (cJ 0 false),aT.refl _,trivial⟩;rfl;rfl;rfl)|intro _|refine aa.av ?_)
  all_goals first|exact⟨rfl,rfl⟩|omega
end Ci
end Go.Proofs.YtbpednchkndocaaGreatDoor.Av
