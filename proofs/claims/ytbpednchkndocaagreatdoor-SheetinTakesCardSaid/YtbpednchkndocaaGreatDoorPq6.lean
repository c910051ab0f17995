/- Cells are read: cellin.Take. Cells are read: cellin.Take, walked. -/
import Derived.Test.YtbpednchkndocaaGreatDoorCi4
set_option linter.unusedVariables false
set_option linter.unusedSimpArgs false
set_option maxRecDepth 100000
set_option maxHeartbeats 64000000
namespace Go.Proofs.YtbpednchkndocaaGreatDoor.Av
namespace Ci
open Go Bt Tc Co Bl
attribute [local irreducible] aa ACalls av ai aN aB
variable {gl:List (Nat×List D)}
abbrev NR (st:Int) (sk:Bool):D := .agg [In st, .bool sk,In 0,In 0,In 0,In 0,In 0,In 0,In 0,In 0,In 0,In 0, .aG, .aG, .aG, .aG, .aG, .aG]
abbrev Ms (st:Int) (sk:Bool):Cel:=⟨st,sk,0,0,0,0,0,0,0,0,0,0,[],[],[],[],[],[]⟩
theorem uW {cs ds:List D} (hl:ds.length=cs.length) (hone:∀d∈ds,d.one=true) (h:∀(i:Nat) (c d:D),cs[i]?=some c→ds[i]?=some d→dA c d):dA (.agg cs) (.agg ds):=fun imm v hv=>by
 cases hv with
 |agg vs _ hl0 hone0 h0 =>
  refine .agg vs _ (hl0.trans hl.symm) hone fun i d hd=>?_
  have hi:i<cs.length:=by rw[←hl];exact ak hd
  have hc:cs[i]?=some cs[i]:=List.getElem?_eq_getElem hi
  exact h i _ d hc hd imm _ (h0 i _ hc)
theorem bM (st:Int) (sk:Bool):dA (NR st sk) (fw (Ms st sk)):=uW rfl (by simp[D.one]) (fun i c d hc hd=>by
 have hn:dA .aG (evS []):=dA.aG 3
 match i,hc,hd with
 |0,hc,hd|1,hc,hd|2,hc,hd|3,hc,hd|4,hc,hd|5,hc,hd|6,hc,hd|7,hc,hd|8,hc,hd|9,hc,hd|10,hc,hd|11,hc,hd=>cases hc;cases hd;exact dA.refl _
 |12,hc,hd|13,hc,hd|14,hc,hd|15,hc,hd|16,hc,hd|17,hc,hd=>cases hc;cases hd;exact hn
 |i+18,hc,hd=>simp at hc)
theorem zA (b:Bool) (B:List Int) (h:(mbN b B).2.2.1=0):((mbN b B).1=0∨(mbN b B).1=1∨(mbN b B).1=3∨(mbN b B).1=4∨(mbN b B).1=5)∧0≤(mbN b B).2.1∧(mbN b B).2.1≤3:=by
 have hb:=Mv.ib (Mb.gL b) (B.map aY) []
 rw[Mb.mK]at hb
 unfold mbN Mb.mbX at h ⊢
 generalize bV (Mb.gL b) (B.map aY) []=y at *
 obtain⟨i,e,c⟩:=y
 simp only at hb h ⊢
 by_cases h1:e=0
 ·rw[if_pos h1]at h ⊢
  have hb:=hb h1
  by_cases h2:(i+(if b=true then 0 else 12)) / 4=2
  ·rw[if_pos h2]at h;cases h
  ·rw[if_neg h2]
   simp only
   cases b
   ·simp only[Bool.false_eq_true,if_false]at hb h2 ⊢;omega
   ·simp only[if_true]at hb h2 ⊢;omega
 ·rw[if_neg h1]at h;exact absurd h h1
structure HdB (B:List Int) (h:HdR):Prop where
 le:h.used≤B.length
 sk:h.skip=true→h.kind=0
 ki:h.err=0→h.skip=false→(h.kind=0∨h.kind=1∨h.kind=3∨h.kind=4)∧0≤h.chr∧h.chr≤3
theorem GJ (b:Bool) (B:List Int) (n:Int) (k:Nat) (y:HdR) (hk:k≤B.length) (hy:HdB (B.drop (k+(mbN b (B.drop k)).2.2.2)) y):HdB B (hdK n k (mbN b (B.drop k)) y):=by
 have hl:=xu b (B.drop k)
 have hkd:=zA b (B.drop k)
 rw[List.length_drop]at hl
 obtain⟨y1,y2,y3⟩:=hy
 rw[List.length_drop]at y1
 generalize mbN b (B.drop k)=x at *
 unfold hdK
 by_cases h0:x.2.2.1≠0
 ·rw[if_pos h0];exact⟨hk,fun _=>rfl,fun h=>absurd h h0⟩
 ·rw[if_neg h0]
  obtain⟨k1,k2⟩:=hkd (by simpa using h0)
  by_cases h5:x.1≠5
  ·rw[if_pos h5]
   exact⟨by simp only;omega,fun h=>(by cases h),fun _ _=>⟨by simp only;omega,k2⟩⟩
  ·rw[if_neg h5]
   by_cases h64:n=64
   ·rw[if_pos h64];exact⟨by simp only;omega,fun _=>rfl,fun h=>(by cases h)⟩
   ·rw[if_neg h64];exact⟨by simp only;omega,y2,y3⟩
theorem qL (b:Bool):∀(f:Nat) (n:Int) (B:List Int),HdB B (hdX b f n B)
 |0,n,B=>⟨Nat.zero_le _,fun _=>rfl,fun h=>(by cases h)⟩
 |f+1,n,B=>by
  rw[hdX]
  cases b with
  |false =>
   simp only[Bool.false_eq_true,if_false]
   have:=GJ false B n 0 _ (Nat.zero_le _) (qL false f (n+1) _)
   simp only[List.drop_zero,Nat.zero_add]at this
   exact this
  |true =>
   simp only[if_true]
   by_cases h0:B=[]
   ·rw[if_pos h0];exact⟨Nat.zero_le _,fun _=>rfl,fun h=>(by cases h)⟩
   ·rw[if_neg h0]
    have hl:1≤B.length:=by
     cases B with
     |nil=>exact absurd rfl h0
     |cons _ _=>simp
    by_cases h1:B.getD 0 0=1
    ·rw[if_pos h1];exact⟨hl,fun _=>rfl,fun _ h=>(by cases h)⟩
    ·rw[if_neg h1]
     exact GJ true B n 1 _ hl (qL true f (n+1) _)
theorem qm (b:Bool) (B:List Int):0≤(cbN b B).1∧(cbN b B).1≤15:=by
 have hb:=Mv.ib Cb.cbR (B.map aY) []
 have hl:Cb.cbR.length=16:=rfl
 unfold cbN Cb.cbX
 simp only
 split
 ·rename_i h
  exact Cb.ES b _ (by have:=hb h;omega)
 ·omega
theorem Jc (k px py:Int) (B:List Int):0≤(mdX k px py B).pat∧(mdX k px py B).pat≤15:=by
 have:=qm (aI k) B
 have hm:∀st q,(mdM k px py B (cbN (aI k) B).1 st q).pat=(cbN (aI k) B).1:=fun st q=>by
  unfold mdM
  split
  ·rfl
  ·split<;>rfl
 unfold mdX
 split
 ·exact this
 ·split
  ·split
   ·exact this
   ·rw[hm];exact this
  ·rw[hm];exact this
theorem Gm (k px py:Int) (s:List UInt8) (p:Nat) (pat st:Int) (q:Nat) (hq:p+q≤8*s.length):p+(mdM k px py (af s p) pat st q).used≤8*s.length:=by
 have h1:=mI (bR s (p+q))
 have h2:=mI (bR s (p+(q+(mvN (af s (p+q))).2.2)))
 rw[bz]at h1 h2
 unfold mdM
 simp only[bw]
 split
 ·exact hq
 ·split
  ·exact hq
  ·simp only;omega
theorem Gj (k px py:Int) (s:List UInt8) (p:Nat) (hp:p≤8*s.length):p+(mdX k px py (af s p)).used≤8*s.length:=by
 have h1:=oK (aI k) (af s p)
 have h2:=wN (af s (p+(cbN (aI k) (af s p)).2.2))
 rw[bz]at h1 h2
 unfold mdX
 simp only[bw]
 split
 ·exact hp
 ·split
  ·split
   ·simp only;omega
   ·exact Gm k px py s p _ _ _ (by omega)
  ·exact Gm k px py s p _ _ _ (by omega)
theorem wD (b:Bool) (s:List UInt8) (p q:Nat):∀(cs:List Bool) (r:Nat),bdX b cs (af s p) (q+r)=((bdX b cs (af s (p+q)) r).1,(bdX b cs (af s (p+q)) r).2.1,q+(bdX b cs (af s (p+q)) r).2.2)
 |[],r=>rfl
 |c::cs,r=>by
  rw[bdX,bdX,bw,bw,←Nat.add_assoc p q r]
  by_cases h:(blX b c (af s (p+q+r))).2.2.1≠0
  ·rw[if_pos h,if_pos h]
  ·rw[if_neg h,if_neg h,Nat.add_assoc q r,wD b s p q cs]
theorem Dj (b:Bool) (s:List UInt8) (p:Nat):∀(cs:List Bool) (r:Nat),(bdX b cs (af s p) r).2.1=0→(bdX b cs (af s p) r).1.length=cs.length
 |[],r,_=>rfl
 |c::cs,r,h=>by
  rw[bdX]at h ⊢
  by_cases h0:(blX b c ((af s p).drop r)).2.2.1≠0
  ·rw[if_pos h0]at h;exact absurd h h0
  ·rw[if_neg h0]at h ⊢
   simp only[List.length_cons]
   rw[Dj b s p cs _ h]
end Ci
namespace Ci
open Go Bt Tc Co Bl
attribute [local irreducible] aa ACalls av ai aN aB
variable {gl:List (Nat×List D)}
theorem LB (a c:Int) (ha:0≤a∧a≤15) (hc:0≤c∧c≤3):(((a*2^2).toNat |||c.toNat:Nat):Int)=4*a+c:=by
 obtain⟨n,rfl⟩:=Int.eq_ofNat_of_zero_le ha.1
 obtain⟨m,rfl⟩:=Int.eq_ofNat_of_zero_le hc.1
 have e:((n:Int)*2^2).toNat=2^2*n:=by omega
 rw[e,Int.toNat_natCast]
 have:=Nat.two_pow_add_eq_or_of_lt (i:=2) (b:=m) (by omega) n
 rw[←this];omega
theorem HB (e v q:Int) (cs:List AV) (s:List UInt8) (he:e≠0) (hb:cJ 3 ([Rr 2 e, .cells cs,Rd s q].take 3)=true):ACalls (cxg gl) 268 [.ptr 0 0, .ptr 1 0,I v] [Rr 2 e, .cells cs,Rd s q] (fun r H=>r = .aX []∧H=[Rr 2 e, .cells cs,Rd s q]):=by
 refine ACalls.en Tryz.func268 Tryz.ntmps268 ?_
 repeat' (first|refine aa.bN true ?_|(((apply aa.yP;rfl;rfl;rfl;exact hb)))|apply aa.bO|intro _|refine aa.bA ?_)
 all_goals first|exact⟨rfl,rfl⟩
attribute [local irreducible] af Tc.bB hdX mdX bdX
theorem Hy (b:Bool) (px py:Int) (s:List UInt8) (p:Nat) (hpx:I64 px) (hpy:I64 py) (hs:s.length≤1000000) (hp:p≤8*s.length) :
  ACalls (cxg gB) 236 [.ptr 0 0,B b, .d (.agg [In px,In py])] [Rd s p]
  (fun r H=>r = .aX [.d (fw (fu b px py (af s p)).1),I (fu b px py (af s p)).2.1]∧H=[Rd s ((p+(fu b px py (af s p)).2.2:Nat):Int)]):=by
 have e00:bB []=[]:=by unfold Tc.bB;rfl
 have a0:=qw (gl:=gB) s p
 have hd:=JN b s p hs hp
 have hB:=qL b 65 0 (af s p)
 have hBl:=bz s p
 unfold fu jN
 generalize hdX b 65 0 (af s p)=h at *
 obtain⟨h1,h2,h3⟩:=hB
 rw[hBl]at h1
 obtain⟨st,sk,k,ch,e,u⟩:=h
 simp only at hd h1 h2 h3 ⊢
 have sk0:=fun c:Int=>ed (gl:=gB) s c p (by omega) ⟨by omega,by omega⟩
 by_cases he:e=0
 ·subst he
  simp only[ne_eq,not_true_eq_false,if_false]
  cases sk with
  |true =>
   obtain rfl:=h2 rfl
   simp only[if_true]
   refine ACalls.en Tryz.func236 Tryz.ntmps236 ?_
   repeat' (first|refine aa.bN true ?_|refine aa.ah [0] ( a0) ?_|refine aa.ah [3,4,0] ( hd) ?_|(apply aa.fK (.aX [.d (fw (Ms st true)),I 0]);rfl;exact aD.aX ⟨aD.d (bM st true),aD.refl _,trivial⟩;rfl;rfl;rfl)|intro _|refine aa.bA ?_)
   all_goals first|exact⟨rfl,rfl⟩|omega
  |false =>
   obtain⟨hk,hch⟩:=h3 rfl rfl
   simp only[Bool.false_eq_true,if_false]
   have md:=Mq st k px py s (p+u) hk hpx hpy hs (by omega)
   have mp:=Jc k px py (af s (p+u))
   have ml:=Gj k px py s (p+u) (by omega)
   rw[bw]
   generalize mdX k px py (af s (p+u))=M at *
   obtain⟨pat,sp,mx,my,me,mu⟩:=M
   simp only at md mp ml ⊢
   have hor:=LB pat ch mp hch
   by_cases hm:me=0
   ·subst hm
    simp only[not_true_eq_false,if_false]
    have bd:=JQ st k sp mx my (4*pat+ch) s (p+u+mu) hs (by omega) (by omega)
    have bs:=wD (aI k) s (p+u) mu (cds (4*pat+ch)) 0
    have bn:=Dj (aI k) s (p+u+mu) (cds (4*pat+ch)) 0
    rw[Nat.add_zero]at bs
    rw[bs]
    generalize bdX (aI k) (cds (4*pat+ch)) (af s (p+u+mu)) 0=Y at *
    obtain⟨L,be,bu⟩:=Y
    simp only at bd bn ⊢
    rw[←hor]at bd
    by_cases hbe:be=0
    ·subst hbe
     simp only[if_true,not_true_eq_false,if_false]at bd ⊢
     have hL:L.length=6:=bn rfl
     match L,hL with
     |[b0,b1,b2,b3,b4,b5],_ =>
      simp only[←Nat.add_assoc]
      refine ACalls.en Tryz.func236 Tryz.ntmps236 ?_
      repeat' (first|refine aa.ah [0] ( a0) ?_|refine aa.ah [3,4,0] ( hd) ?_|refine aa.ah [3,4,0] ( md) ?_|refine aa.ah [3,4,0] ( bd) ?_|intro _|refine aa.bA ?_)
      all_goals first|exact⟨rfl,rfl⟩|omega
    ·simp only[if_neg hbe,if_pos hbe,Nat.add_zero]at bd ⊢
     generalize uO st k sp mx my (L++[(0,[])])=CS at *
     refine ACalls.en Tryz.func236 Tryz.ntmps236 ?_
     repeat' (first|(apply aa.eT [0,1,2,3,4,5,6] 7;rfl)|refine aB.bg ?_|(apply aB.go)|refine aB.jG true ?_|refine aB.dK ?_|(apply aB.two;rfl;rfl;rfl;kernel_rfl)|(exact aa.bP)|(apply aa.bq;(repeat' (first|exact aO.nil|(apply aO.cons;rfl)));rfl)|refine aa.bN true ?_|refine aa.ah [0] ( a0) ?_|refine aa.ah [3,4,0] ( hd) ?_|refine aa.ah [3,4,0] ( md) ?_|refine aa.ah [3,4,0] ( bd) ?_|refine aa.ah [0] ( sk0 _) ?_|(apply aa.fK (.aX [.d (fw kC),I be]);rfl;exact aD.aX ⟨aD.d (bM 0 false),aD.refl _,trivial⟩;rfl;rfl;rfl)|intro _|refine aa.bA ?_)
     all_goals first|exact⟨rfl,rfl⟩|omega
   ·rw[if_pos hm]
    simp only[Nat.add_zero]
    have be:=fun v=>HB (gl:=gB) me v ((p+u+mu:Nat):Int) (Mt st k sp mx my) s hm rfl
    refine ACalls.en Tryz.func236 Tryz.ntmps236 ?_
    repeat' (first|(apply aa.eT [0,1,2,3,4,5,6] 7;rfl)|refine aB.bg ?_|(apply aB.go)|refine aB.jG true ?_|refine aB.dK ?_|(apply aB.two;rfl;rfl;rfl;kernel_rfl)|(exact aa.bP)|(apply aa.bq;(repeat' (first|exact aO.nil|(apply aO.cons;rfl)));rfl)|refine aa.bN true ?_|refine aa.ah [0] ( a0) ?_|refine aa.ah [3,4,0] ( hd) ?_|refine aa.ah [3,4,0] ( md) ?_|refine aa.ah [3,4,0] ( be _) ?_|refine aa.ah [0] ( sk0 _) ?_|(apply aa.fK (.aX [.d (fw kC),I me]);rfl;exact aD.aX ⟨aD.d (bM 0 false),aD.refl _,trivial⟩;rfl;rfl;rfl)|intro _|refine aa.bA ?_)
    all_goals first|exact⟨rfl,rfl⟩|omega
 ·rw[if_pos he]
  simp only[decide_eq_false he,Bool.false_and,Nat.add_zero]at hd ⊢
  refine ACalls.en Tryz.func236 Tryz.ntmps236 ?_
  repeat' (first|(apply aa.eT [0,1,2,3,4,5,6] 7;rfl)|refine aB.bg ?_|(apply aB.go)|refine aB.jG true ?_|refine aB.dK ?_|(apply aB.two;rfl;rfl;rfl;kernel_rfl)|(exact aa.bP)|(apply aa.bq;(repeat' (first|exact aO.nil|(apply aO.cons;rfl)));rfl)|refine aa.bN true ?_|refine aa.ah [0] ( a0) ?_|refine aa.ah [3,4,0] ( hd) ?_|refine aa.ah [0] ( sk0 _) ?_|(apply aa.fK (.aX [.d (fw kC),I e]);rfl;exact aD.aX ⟨aD.d (bM 0 false),aD.refl _,trivial⟩;rfl;rfl;rfl)|intro _|refine aa.bA ?_)
  all_goals first|exact⟨rfl,rfl⟩|omega
end Ci
end Go.Proofs.YtbpednchkndocaaGreatDoor.Av
