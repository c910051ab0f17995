/- Heads of sheets are read: what bits tell of a head, no program. Heads of sheets are read: the closures part and unless. Heads of sheets are read: sheethead.read, sheethead.Take. -/
import Derived.Test.YtbpednchkndocaaGreatDoorPy1
import Derived.Test.YtbpednchkndocaaGreatDoorPs1
import Derived.Test.YtbpednchkndocaaGreatDoorPy6
import Derived.Test.YtbpednchkndocaaGreatDoorPq6
set_option linter.unusedVariables false
set_option linter.unusedSimpArgs false
set_option maxRecDepth 100000
set_option maxHeartbeats 64000000
namespace Go.Proofs.YtbpednchkndocaaGreatDoor.Av
namespace Si
open Go Bt Sh
def ptX(s:List UInt8)(n:Nat)(chk:Int→Int)(st:Int×Nat):Int×Int×Nat :=
 if st.1=0 then (if 8*s.length<st.2+n then (0,2,st.2) else (nB ((aG s st.2).take n),chk (nB ((aG s st.2).take n)),st.2+n)) else (0,st.1,st.2)
def ckN(_:Int):Int:=0
def ckU(v f:Int)(n:Int):Int:=if n=v then 0 else f
def ckF(v:Int):Int:=if fOk v=true then 0 else 5
def ckQ(v:Int):Int:=if v=0 then 9 else 0
def spX(s:List UInt8):Nat→List Int→Int×Nat→List Int×Int×Nat
 |0,l,st=>(l,st)
 | f + 1, l, st =>
  if (ptX s 1 ckN st).1=1∧(ptX s 1 ckN st).2.1=0 then
   (if l.length=8 then (l,13,(ptX s 1 ckN st).2.2) else spX s f (l++[(ptX s 8 ckN (ptX s 1 ckN st).2).1]) (ptX s 8 ckN (ptX s 1 ckN st).2).2)
  else (l,(ptX s 1 ckN st).2)
def wd:Nat→Nat
 |0=>8|1=>2|2=>3|3=>3|4=>1|5=>4|6=>5|_=>1
def ck:Nat→Int→Int
 |1=>ckU 2 5|3=>ckF|5=>ckU 0 6|6=>ckQ|7=>ckU 0 6|_=>ckN
def dz(s:List UInt8)(p:Nat):Nat→Int×Int×Nat
 |0=>(0,Mk.mkM s p)
 |k+1=>ptX s (wd k) (ck k) (dz s p k).2
def hdR(s:List UInt8)(p:Nat):Hd×Int×Nat :=
 (⟨(dz s p 1).1,(dz s p 3).1,(dz s p 4).1,decide ((dz s p 5).1=1),(dz s p 7).1,(spX s 9 [] (dz s p 8).2).1⟩,(spX s 9 [] (dz s p 8).2).2.1,(spX s 9 [] (dz s p 8).2).2.2)
def hd0:Hd:=⟨0,0,0,false,0,[]⟩
def hdT(s:List UInt8)(p:Nat):Hd×Int×Nat:=if (hdR s p).2.1=0 then hdR s p else (hd0,(hdR s p).2.1,p)
theorem wZ(s:List UInt8)(n:Nat)(chk:Int→Int)(st:Int×Nat)(h:st.2≤8*s.length):(ptX s n chk st).2.2≤8*s.length∧st.2≤(ptX s n chk st).2.2:=by
 unfold ptX;split
 ·split
  ·exact⟨h,Nat.le_refl _⟩
  ·constructor<;>simp only<;>omega
 ·exact⟨h,Nat.le_refl _⟩
theorem OL{s:List UInt8}{n:Nat}{chk:Int→Int}{st:Int×Nat}(h:st.1≠0):ptX s n chk st=(0,st.1,st.2):=by
 unfold ptX;rw[if_neg h]
theorem Q9{s:List UInt8}{f:Nat}{l:List Int}{st:Int×Nat}(h:st.1≠0):spX s f l st=(l,st):=by
 cases f with
 |zero=>rfl
 |succ f =>
  simp only[spX,OL h];rw[if_neg (by omega)]
theorem IZ(s:List UInt8):∀(f:Nat) (l:List Int) (st:Int×Nat),st.2≤8*s.length→(spX s f l st).2.2≤8*s.length∧st.2≤(spX s f l st).2.2
 |0,_,st,h=>⟨h,Nat.le_refl _⟩
 | f + 1, l, st, h => by
  have h1:=wZ s 1 ckN st h;have h2:=wZ s 8 ckN (ptX s 1 ckN st).2 h1.1;have ih:=IZ s f (l++[(ptX s 8 ckN (ptX s 1 ckN st).2).1]) (ptX s 8 ckN (ptX s 1 ckN st).2).2 h2.1;simp only[spX];split
  ·split
   ·exact h1
   ·exact⟨ih.1,by omega⟩
  ·exact h1
theorem PV(s:List UInt8)(p:Nat)(h:p≤8*s.length):(Mk.mkM s p).2≤8*s.length∧p≤(Mk.mkM s p).2:=by
 have:=Mk.EJ s p;unfold Mk.mkM;split
 ·split
  ·rename_i h0;have:=this h0;split
   ·constructor<;>simp only<;>omega
   ·exact⟨h,Nat.le_refl _⟩
  ·exact⟨h,Nat.le_refl _⟩
 ·exact⟨h,Nat.le_refl _⟩
theorem Ec(s:List UInt8)(p:Nat)(h:p≤8*s.length):∀k,(dz s p k).2.2≤8*s.length∧p≤(dz s p k).2.2
 |0=>PV s p h
 |k+1=>by
  have ih:=Ec s p h k;have:=wZ s (wd k) (ck k) (dz s p k).2 ih.1;exact⟨this.1,Nat.le_trans ih.2 this.2⟩
theorem Fu{s:List UInt8}{p k:Nat}(h:(dz s p k).2.1≠0):∀j,(dz s p (k+j)).2.1=(dz s p k).2.1
 |0=>rfl
 |j+1=>by
  have ih:=Fu h j;show (ptX s _ _ (dz s p (k+j)).2).2.1=_;rw[OL (by rw[ih];exact h)];exact ih
theorem FX{s:List UInt8}{p k:Nat}(hk:k≤8)(h:(dz s p k).2.1≠0):hdT s p=(hd0,(dz s p k).2.1,p):=by
 have h8:=Fu h (8-k);rw[show k+(8-k)=8 by omega]at h8;have he:(hdR s p).2.1=(dz s p k).2.1:=by
  unfold hdR;simp only;rw[Q9 (by rw[h8];exact h)];exact h8
 unfold hdT;rw[if_neg (by rw[he];exact h),he]
theorem Kl(s:List UInt8)(p:Nat)(h:p≤8*s.length):(hdR s p).2.2≤8*s.length∧p≤(hdR s p).2.2:=by
 have h8:=Ec s p h 8;have:=IZ s 9 [] (dz s p 8).2 h8.1;exact⟨this.1,Nat.le_trans h8.2 this.2⟩
theorem Kk(s:List UInt8)(p:Nat)(h:p≤8*s.length):(hdT s p).2.2≤8*s.length∧p≤(hdT s p).2.2:=by
 unfold hdT;split
 ·exact Kl s p h
 ·exact⟨h,Nat.le_refl _⟩
end Si
namespace Si
open Go Bt Sh
attribute [local irreducible] aa ACalls
variable {gl:List (Nat×List D)}
theorem Ti(v:Int):ACalls (cxg gl) 194 [I v] [] (fun r H=>r=I (ckF v)∧H=[]):=by
 have hs:=zR (gl:=gl) v;unfold ckF;generalize fOk v=b at *;cases b;all_goals
  refine ACalls.en Tryz.func194 Tryz.ntmps194 ?_;repeat' (first|refine aa.aF ?_|refine aa.bh true ?_|refine aa.av (hs) ?_|refine aa.aB ?_|refine aa.ak ?_|intro _|refine aa.aA ?_)
  all_goals exact Tn
theorem Tg(v:Int):ACalls (cxg gl) 195 [I v] [] (fun r H=>r=I (ckQ v)∧H=[]):=by
 unfold ckQ;by_cases h:v=0;all_goals
  simp only[h,if_true,if_false];refine ACalls.en Tryz.func195 Tryz.ntmps195 ?_;repeat' (first|refine aa.aF ?_|refine aa.bh true ?_|refine aa.ah ?_|refine aa.ae ?_|intro _|refine aa.aA ?_)
  all_goals exact Tn
theorem Tf(n v f:Int):ACalls (cxg gl) 193 [I n, .ptr 0 0, .ptr 1 0] [.cells [I v], .cells [I f]] (fun r H=>r=I (ckU v f n)∧H=[.cells [I v], .cells [I f]]):=by
 unfold ckU;by_cases h:n=v;all_goals
  simp only[h,if_true,if_false];refine ACalls.en Tryz.func193 Tryz.ntmps193 ?_;repeat' (first|refine aa.aF ?_|refine aa.bh true ?_|refine aa.ah ?_|refine aa.ae ?_|intro _|refine aa.aA ?_)
  all_goals exact Tn
abbrev Q4(a b:Nat):AV := .fn (.func 193) [] [.ptr a 0, .ptr b 0]
theorem Q3(v f:Int):ACalls (cxg gl) 192 [I v,I f] [] (fun r H=>r=Q4 0 1∧H=[.cells [I v], .cells [I f]]):=by
 refine ACalls.en Tryz.func192 Tryz.ntmps192 ?_;repeat (first|refine aa.aF ?_|refine aa.bh true ?_|refine aa.aM ?_)
 (apply aa.BN 2;rfl;rfl;rfl;rfl;rfl)
 all_goals exact Tn
abbrev PtO(s:List UInt8)(q:Nat)(e:Int):List aN:=[Rd s (q:Int), .cells [I e], .cells [.ptr 0 0]]
attribute [local irreducible] aG
theorem BZ(s:List UInt8)(n:Nat)(st:Int×Nat)(hs:s.length<1000000000000000)(hq:st.2≤8*s.length)(hn:n≤32):
  ACalls (cxg gl) 191 [I (n:Int), .d .nilf, .ptr 1 0, .ptr 2 0] (PtO s st.2 st.1)
   (fun r H=>r=I (ptX s n ckN st).1∧H=PtO s (ptX s n ckN st).2.2 (ptX s n ckN st).2.1):=by
 obtain⟨e,q⟩:=st;have tk:=jg (gl:=gl) s q n hs hq hn;unfold pkN tkN at tk;unfold ptX;simp only at hq ⊢;generalize nB ((aG s q).take n)=V at *;have d:=V;unfold ckN;by_cases he:e=0
 ·subst he;by_cases h:8*s.length<q+n;all_goals
   simp only[h,if_true,if_false]at tk ⊢;refine ACalls.en Tryz.func191 Tryz.ntmps191 ?_;repeat' (first|refine aa.aF ?_|refine aa.bh true ?_|refine aa.aj [0] (tk) ?_|refine aa.ak ?_|refine aa.aD ?_|refine aa.au ?_|refine aa.bg ?_|refine aa.aQ ?_|refine aa.aC ?_|(apply aa.opx;(apply iW;(iterate 5 rfl);kernel_rfl);rfl;rfl;rfl)|intro _|refine aa.aA ?_)
   all_goals exact Tn
 ·rw[if_neg he];refine ACalls.en Tryz.func191 Tryz.ntmps191 ?_;repeat' (first|refine aa.aF ?_|refine aa.bh true ?_|refine aa.ak ?_|refine aa.aD ?_|refine aa.au ?_|refine aa.bg ?_|refine aa.aQ ?_|refine aa.aC ?_|(apply aa.opx;(apply iW;(iterate 5 rfl);kernel_rfl);rfl;rfl;rfl)|intro _|refine aa.aA ?_)
  all_goals exact Tn
theorem RB(s:List UInt8)(n:Nat)(st:Int×Nat)(hs:s.length<1000000000000000)(hq:st.2≤8*s.length)(hn:n≤32):
  ACalls (cxg gl) 191 [I (n:Int), .fn (.func 194) [] [], .ptr 1 0, .ptr 2 0] (PtO s st.2 st.1)
   (fun r H=>r=I (ptX s n ckF st).1∧H=PtO s (ptX s n ckF st).2.2 (ptX s n ckF st).2.1):=by
 obtain⟨e,q⟩:=st;have tk:=jg (gl:=gl) s q n hs hq hn;unfold pkN tkN at tk;unfold ptX;simp only at hq ⊢;generalize nB ((aG s q).take n)=V at *;have d:=Ti (gl:=gl) V;by_cases he:e=0
 ·subst he;by_cases h:8*s.length<q+n;all_goals
   simp only[h,if_true,if_false]at tk ⊢;refine ACalls.en Tryz.func191 Tryz.ntmps191 ?_;repeat' (first|refine aa.aF ?_|refine aa.bh true ?_|refine aa.aj [0] (tk) ?_|refine aa.av (d) ?_|refine aa.aB ?_|refine aa.ak ?_|refine aa.aD ?_|refine aa.au ?_|refine aa.bg ?_|refine aa.aQ ?_|refine aa.aC ?_|(apply aa.opx;(apply iW;(iterate 5 rfl);kernel_rfl);rfl;rfl;rfl)|intro _|refine aa.aA ?_)
   all_goals exact Tn
 ·rw[if_neg he];refine ACalls.en Tryz.func191 Tryz.ntmps191 ?_;repeat' (first|refine aa.aF ?_|refine aa.bh true ?_|refine aa.aB ?_|refine aa.ak ?_|refine aa.aD ?_|refine aa.au ?_|refine aa.bg ?_|refine aa.aQ ?_|refine aa.aC ?_|(apply aa.opx;(apply iW;(iterate 5 rfl);kernel_rfl);rfl;rfl;rfl)|intro _|refine aa.aA ?_)
  all_goals exact Tn
theorem Rz(s:List UInt8)(n:Nat)(st:Int×Nat)(hs:s.length<1000000000000000)(hq:st.2≤8*s.length)(hn:n≤32):
  ACalls (cxg gl) 191 [I (n:Int), .fn (.func 195) [] [], .ptr 1 0, .ptr 2 0] (PtO s st.2 st.1)
   (fun r H=>r=I (ptX s n ckQ st).1∧H=PtO s (ptX s n ckQ st).2.2 (ptX s n ckQ st).2.1):=by
 obtain⟨e,q⟩:=st;have tk:=jg (gl:=gl) s q n hs hq hn;unfold pkN tkN at tk;unfold ptX;simp only at hq ⊢;generalize nB ((aG s q).take n)=V at *;have d:=Tg (gl:=gl) V;by_cases he:e=0
 ·subst he;by_cases h:8*s.length<q+n;all_goals
   simp only[h,if_true,if_false]at tk ⊢;refine ACalls.en Tryz.func191 Tryz.ntmps191 ?_;repeat' (first|refine aa.aF ?_|refine aa.bh true ?_|refine aa.aj [0] (tk) ?_|refine aa.av (d) ?_|refine aa.aB ?_|refine aa.ak ?_|refine aa.aD ?_|refine aa.au ?_|refine aa.bg ?_|refine aa.aQ ?_|refine aa.aC ?_|(apply aa.opx;(apply iW;(iterate 5 rfl);kernel_rfl);rfl;rfl;rfl)|intro _|refine aa.aA ?_)
   all_goals exact Tn
 ·rw[if_neg he];refine ACalls.en Tryz.func191 Tryz.ntmps191 ?_;repeat' (first|refine aa.aF ?_|refine aa.bh true ?_|refine aa.aB ?_|refine aa.ak ?_|refine aa.aD ?_|refine aa.au ?_|refine aa.bg ?_|refine aa.aQ ?_|refine aa.aC ?_|(apply aa.opx;(apply iW;(iterate 5 rfl);kernel_rfl);rfl;rfl;rfl)|intro _|refine aa.aA ?_)
  all_goals exact Tn
theorem Ju(s:List UInt8)(n:Nat)(v f:Int)(st:Int×Nat)(hs:s.length<1000000000000000)(hq:st.2≤8*s.length)(hn:n≤32):
  ACalls (cxg gl) 191 [I (n:Int),Q4 3 4, .ptr 1 0, .ptr 2 0] (PtO s st.2 st.1++[.cells [I v], .cells [I f]])
   (fun r H=>r=I (ptX s n (ckU v f) st).1∧H=PtO s (ptX s n (ckU v f) st).2.2 (ptX s n (ckU v f) st).2.1++[.cells [I v], .cells [I f]]):=by
 obtain⟨e,q⟩:=st;have tk:=jg (gl:=gl) s q n hs hq hn;unfold pkN tkN at tk;unfold ptX;simp only at hq ⊢;generalize nB ((aG s q).take n)=V at *;have d:=Tf (gl:=gl) V v f;by_cases he:e=0
 ·subst he;by_cases h:8*s.length<q+n;all_goals
   simp only[h,if_true,if_false]at tk ⊢;refine ACalls.en Tryz.func191 Tryz.ntmps191 ?_;repeat' (first|refine aa.aF ?_|refine aa.bh true ?_|refine aa.aj [0] (tk) ?_|refine aa.aj [3,4] (d) ?_|refine aa.aB ?_|refine aa.ak ?_|refine aa.aD ?_|refine aa.au ?_|refine aa.bg ?_|refine aa.aQ ?_|refine aa.aC ?_|(apply aa.opx;(apply iW;(iterate 5 rfl);kernel_rfl);rfl;rfl;rfl)|intro _|refine aa.aA ?_)
   all_goals exact Tn
 ·rw[if_neg he];refine ACalls.en Tryz.func191 Tryz.ntmps191 ?_;repeat' (first|refine aa.aF ?_|refine aa.bh true ?_|refine aa.aB ?_|refine aa.ak ?_|refine aa.aD ?_|refine aa.au ?_|refine aa.bg ?_|refine aa.aQ ?_|refine aa.aC ?_|(apply aa.opx;(apply iW;(iterate 5 rfl);kernel_rfl);rfl;rfl;rfl)|intro _|refine aa.aA ?_)
  all_goals exact Tn
end Si
namespace Si
open Go Bt Sh
attribute [local irreducible] aa ACalls aW aK bP aT
variable {gl:List (Nat×List D)}
abbrev hdD(h:Hd):D := .agg [Nn h.ref,Nn h.flags,Nn h.fmt, .bool h.inter,Nn h.quant, .sl 1 (suD h.supp), .aU,Nn 0]
abbrev Ed:AV := .fn (.func 191) [] [.ptr 4 0, .ptr 1 0]
abbrev RdO(s:List UInt8)(x1 x3 x4 x5 x7:Int)(l:List Int)(st:Int×Nat):List aN :=
 [Rd s (st.2:Int), .cells [.ptr 0 0], .cells [I 0,I 0,I 0,B false,I 0, .d .aU, .d .aU,I 0], .cells [I x1,I x3,I x4,B (decide (x5=1)),I x7, .own 1 (suD l) 11, .d .aU,I 0], .cells [I st.1], .cells [I 2], .cells [I 5], .cells [I 0], .cells [I 6], .cells [I 0], .cells [I 6], .front 3 1 (suD l).length]
theorem Mf(l:List Int)(v:Int):suD (l++[v])=suD l++[Nn v]:=by simp[suD]
attribute [local irreducible] ptX spX suD
theorem Pw(s:List UInt8)(p:Nat)(hs:s.length<1000000000000000)(hp:p≤8*s.length):
  ACalls (cxg gl) 126 [.ptr 0 0] [Rd s (p:Int)] (fun r H=>r = .cH [.d (hdD (hdR s p).1),I (hdR s p).2.1]∧H=[Rd s ((hdR s p).2.2:Int)]):=by
 have mk:=Mk.P6 (gl:=gl) s p hs hp;have le:=Ec s p hp;have q1:=BZ (gl:=gl) s 8 (dz s p 0).2 hs (le 0).1 (by decide);have q2:=Ju (gl:=gl) s 2 2 5 (dz s p 1).2 hs (le 1).1 (by decide);have q3:=BZ (gl:=gl) s 3 (dz s p 2).2 hs (le 2).1 (by decide);have q4:=RB (gl:=gl) s 3 (dz s p 3).2 hs (le 3).1 (by decide);have q5:=BZ (gl:=gl) s 1 (dz s p 4).2 hs (le 4).1 (by decide);have q6:=Ju (gl:=gl) s 4 0 6 (dz s p 5).2 hs (le 5).1 (by decide);have q7:=Rz (gl:=gl) s 5 (dz s p 6).2 hs (le 6).1 (by decide);have q8:=Ju (gl:=gl) s 1 0 6 (dz s p 7).2 hs (le 7).1 (by decide);have l8:=(le 8).1;have e0:dz s p 0=(0,Mk.mkM s p):=rfl;have e1:dz s p 1=ptX s 8 ckN (dz s p 0).2:=rfl;have e2:dz s p 2=ptX s 2 (ckU 2 5) (dz s p 1).2:=rfl;have e3:dz s p 3=ptX s 3 ckN (dz s p 2).2:=rfl;have e4:dz s p 4=ptX s 3 ckF (dz s p 3).2:=rfl;have e5:dz s p 5=ptX s 1 ckN (dz s p 4).2:=rfl;have e6:dz s p 6=ptX s 4 (ckU 0 6) (dz s p 5).2:=rfl;have e7:dz s p 7=ptX s 5 ckQ (dz s p 6).2:=rfl;have e8:dz s p 8=ptX s 1 (ckU 0 6) (dz s p 7).2:=rfl;rw[←e1]at q1;rw[←e2]at q2;rw[←e3]at q3;rw[←e4]at q4;rw[←e5]at q5;rw[←e6]at q6;rw[←e7]at q7;rw[←e8]at q8;have m0:Mk.mkM s p=(dz s p 0).2:=rfl;rw[m0]at mk;unfold hdR;clear e0 e1 e2 e3 e4 e5 e6 e7 e8 m0 le;generalize dz s p 0=x0 at *;generalize dz s p 1=x1 at *;generalize dz s p 2=x2 at *;generalize dz s p 3=x3 at *;generalize dz s p 4=x4 at *;generalize dz s p 5=x5 at *;generalize dz s p 6=x6 at *;generalize dz s p 7=x7 at *;generalize dz s p 8=x8 at *;obtain⟨y0,z0,w0⟩:=x0;obtain⟨y1,z1,w1⟩:=x1;obtain⟨y2,z2,w2⟩:=x2;obtain⟨y3,z3,w3⟩:=x3;obtain⟨y4,z4,w4⟩:=x4;obtain⟨y5,z5,w5⟩:=x5;obtain⟨y6,z6,w6⟩:=x6;obtain⟨y7,z7,w7⟩:=x7;obtain⟨y8,z8,w8⟩:=x8;simp only at mk q1 q2 q3 q4 q5 q6 q7 q8 l8 ⊢;have un1:=Q3 (gl:=gl) 2 5;have un2:=Q3 (gl:=gl) 0 6;have s0:suD []=[]:=by unfold suD;rfl
 obtain⟨Z,hZ⟩:∃Z,Z=spX s 9 [] (z8,w8):=⟨_,rfl⟩;rw[←hZ];refine ACalls.en Tryz.func126 Tryz.ntmps126 ?_;repeat (first|refine aa.aF ?_|refine aa.bh true ?_|refine aa.aj [0] (mk) ?_|refine aa.aj [0,4,1] (q1) ?_|refine aa.aj [] (un1) ?_|refine aa.aj [0,4,1,5,6] (q2) ?_|refine aa.aj [0,4,1] (q3) ?_|refine aa.aj [0,4,1] (q4) ?_|refine aa.aj [0,4,1] (q5) ?_|refine aa.aj [] (un2) ?_|refine aa.aj [0,4,1,7,8] (q6) ?_|refine aa.aj [0,4,1] (q7) ?_|refine aa.aj [0,4,1,9,10] (q8) ?_|refine aa.ah ?_|refine aa.ae ?_|refine aa.aB ?_|refine aa.ak ?_|refine aa.aH ?_|refine aa.aM ?_|refine aa.aD ?_|refine aa.au ?_|refine aa.aC ?_|refine aa.aX ?_)
 (apply aa.rT 3 5 3 1;rfl;rfl;simp only[List.set_cons_zero,List.set_cons_succ,List.length_cons,List.length_nil,Nat.reduceAdd,List.cons_append,List.nil_append])
 (apply aa.qO 3 5;rfl;rfl;rfl;rfl;simp only[List.set_cons_zero,List.set_cons_succ])
 refine aa.weak (env':=[(6,Ed),(5, .ptr 4 0),(4, .ptr 3 0),(2, .ptr 2 0)]) ⟨rfl,rfl,rfl,rfl,trivial⟩ ?_
 refine aa.loop (fun m env H=>∃(l:List Int) (st:Int×Nat),m=9-l.length∧l.length≤8∧st.2≤8*s.length∧Z=spX s (9-l.length) l st∧env=[(6,Ed),(5, .ptr 4 0),(4, .ptr 3 0),(2, .ptr 2 0)] ∧
   H=RdO s y1 y3 y4 y5 y7 l st) 9
  ⟨[],(z8,w8),rfl,by decide,l8,hZ,rfl,by unfold RdO;rw[s0]⟩ ?_
 rintro m env H ⟨l,st,rfl,hl,hq,hsp,rfl,rfl⟩;obtain⟨f,hf⟩:∃f,9-l.length=f+1:=⟨8-l.length,by omega⟩;rw[hf,spX]at hsp;have c1:=BZ (gl:=gl) s 1 st hs hq (by decide);have h1:=wZ s 1 ckN st hq;have c8:=BZ (gl:=gl) s 8 (ptX s 1 ckN st).2 hs h1.1 (by decide);have h8:=wZ s 8 ckN (ptX s 1 ckN st).2 h1.1;generalize ptX s 1 ckN st=X at *;generalize ptX s 8 ckN X.2=Y at *;obtain⟨v,e',q'⟩:=X;obtain⟨u,e'',q''⟩:=Y;obtain⟨e,q⟩:=st;simp only at c1 c8 h1 h8 hsp hq;have hsl:=oC l;unfold RdO;simp only;by_cases hc:v=1∧e'=0
 ·rw[if_pos hc]at hsp;obtain⟨rfl,rfl⟩:=hc;by_cases h:l.length=8
  ·rw[if_pos h]at hsp;rw[hsp]
   (apply aa.Ac 3 5;rfl;rfl;simp only[List.set_cons_zero,List.set_cons_succ])
   repeat' (first|refine aa.aF ?_|(apply aa.gu [0,1,2,3] 4;rfl)|refine aT.cL ?_|(apply aT.go)|(apply aT.pure true;rfl;exact fun _ _ _ h=>h;(iterate 6 rfl);kernel_rfl;kernel_rfl;first|exact True.intro|omega|(rw[hsl];omega))|refine aT.gq ?_|(apply aT.two;rfl;rfl;rfl;kernel_rfl)|(exact aa.fg)|(refine aa.bv ?_;rfl)|(apply aa.q true;rfl;rfl;rfl;rfl;first|exact True.intro|omega|(simp only[tn,Int.reduceToNat];omega)|(rw[hsl];omega))|refine aa.aj [0,4,1] (c1) ?_|refine aa.ah ?_|refine aa.ae ?_|refine aa.aB ?_|refine aa.ak ?_|refine aa.aH ?_|refine aa.aM ?_|refine aa.aD ?_|refine aa.au ?_|refine aa.aC ?_|refine aa.aX ?_|intro _|(apply aa.gD;rfl;rfl;rfl)|refine aa.aA ?_|refine aa.aP ?_|refine aa.aJ ?_)
   all_goals exact Tn
  ·rw[if_neg h]at hsp;have e9:9-(l++[u]).length=f:=by rw[List.length_append,List.length_singleton];omega
   have hsp':Z=spX s (9-(l++[u]).length) (l++[u]) (e'',q''):=by rw[e9];exact hsp
   have hl':(l++[u]).length≤8:=by rw[List.length_append,List.length_singleton];omega
   have hm':9-(l++[u]).length<9-l.length:=by omega
   repeat' (first|refine aa.aF ?_|(apply aa.gu [0,1,2,3,4,5,6,7] 8;rfl)|refine aT.cL ?_|(apply aT.go)|(apply aT.pure true;rfl;exact fun _ _ _ h=>h;(iterate 6 rfl);kernel_rfl;kernel_rfl;first|exact True.intro|omega|(rw[hsl];omega))|refine aT.gq ?_|(apply aT.two;rfl;rfl;rfl;kernel_rfl)|(exact aa.fg)|(refine aa.bv ?_;rfl)|(apply aa.append;(iterate 11 rfl);(first|rfl|(simp only[List.length_append,List.length_map,List.length_cons,List.length_nil];omega));(first|(simp only[List.length_append,List.length_map,List.length_cons,List.length_nil];omega)|(rw[hsl];omega));simp only[List.set_cons_zero,List.set_cons_succ])|(apply aa.q true;rfl;rfl;rfl;rfl;first|exact True.intro|omega|(simp only[tn,Int.reduceToNat];omega)|(rw[hsl];omega))|refine aa.aj [0,4,1] (c1) ?_|refine aa.aj [0,4,1] (c8) ?_|refine aa.ah ?_|refine aa.ae ?_|refine aa.aB ?_|refine aa.ak ?_|refine aa.aH ?_|refine aa.aM ?_|refine aa.aD ?_|refine aa.au ?_|refine aa.aC ?_|refine aa.aX ?_|intro _|(apply aa.gD;rfl;rfl;rfl)|refine aa.aA ?_|refine aa.aP ?_|refine aa.aJ ?_)
   all_goals exact aa.round [(6,Ed),(5, .ptr 4 0),(4, .ptr 3 0),(2, .ptr 2 0)] (9-(l++[u]).length) hm' ⟨rfl,rfl,rfl,rfl,trivial⟩ ⟨l++[u],(e'',q''),rfl,hl',h8.1,hsp',rfl,by rw[Mf]⟩
 ·rw[if_neg hc]at hsp;rw[hsp]
  (apply aa.Ac 3 5;rfl;rfl;simp only[List.set_cons_zero,List.set_cons_succ])
  repeat' (first|refine aa.aF ?_|(apply aa.gu [0,1,2,3] 4;rfl)|refine aT.cL ?_|(apply aT.go)|refine aT.ku true ?_|refine aT.gq ?_|(apply aT.two;rfl;rfl;rfl;kernel_rfl)|(exact aa.fg)|(refine aa.bv ?_;rfl)|refine aa.bh true ?_|refine aa.aj [0,4,1] (c1) ?_|refine aa.ah ?_|refine aa.ae ?_|refine aa.aB ?_|refine aa.ak ?_|refine aa.aH ?_|refine aa.aM ?_|refine aa.aD ?_|refine aa.au ?_|refine aa.aC ?_|refine aa.aX ?_|intro _|(apply aa.gD;rfl;rfl;rfl)|refine aa.aA ?_|refine aa.aP ?_|refine aa.aJ ?_)
  all_goals exact Tn
abbrev R4:D := .agg [Nn 0,Nn 0,Nn 0, .bool false,Nn 0, .aU, .aU,Nn 0]
theorem Kq:bW R4 (hdD hd0):=Ci.xY rfl (by simp[D.one]) (fun i c d hc hd=>by
 match i,hc,hd with
 |0,hc,hd|1,hc,hd|2,hc,hd|3,hc,hd|4,hc,hd|6,hc,hd|7,hc,hd=>cases hc;cases hd;exact bW.refl _
 |5,hc,hd =>
  cases hc;have e:suD hd0.supp=[]:=by unfold suD hd0;rfl
  rw[e]at hd
  cases hd;exact bW.aU 1)
theorem I3(s:List UInt8)(p:Nat)(hs:s.length<1000000000000000)(hp:p≤8*s.length):
  ACalls (cxg gl) 55 [.ptr 0 0] [Rd s (p:Int)] (fun r H=>r = .cH [.d (hdD (hdT s p).1),I (hdT s p).2.1]∧H=[Rd s ((hdT s p).2.2:Int)]):=by
 have a0:=ui (gl:=gl) s p;have rc:=Pw (gl:=gl) s p hs hp;have hle:=Kl s p hp;unfold hdT;generalize hdR s p=R at *;obtain⟨h,e,q⟩:=R;simp only at rc hle ⊢;have sk:=gI (gl:=gl) s (q:Int) p hs ⟨by omega,by omega⟩;by_cases he:e=0
 ·subst he;simp only[if_true];refine ACalls.en Tryz.func55 Tryz.ntmps55 ?_;repeat' (first|refine aa.aF ?_|refine aa.bh true ?_|refine aa.aj [0] (a0) ?_|refine aa.aj [0] (rc) ?_|refine aa.ak ?_|refine aa.aH ?_|refine aa.aD ?_|refine aa.bG ?_|refine aa.aQ ?_|intro _|refine aa.aA ?_)
  all_goals exact Tn
 ·rw[if_neg he];refine ACalls.en Tryz.func55 Tryz.ntmps55 ?_;repeat' (first|refine aa.aF ?_|refine aa.bh true ?_|refine aa.aj [0] (a0) ?_|refine aa.aj [0] (rc) ?_|refine aa.aj [0] (sk) ?_|refine aa.ak ?_|refine aa.aH ?_|refine aa.aD ?_|refine aa.bG ?_|refine aa.aQ ?_|(apply aa.nP (.cH [.d (hdD hd0),I e]);rfl;exact cJ.cH ⟨cJ.d Kq,cJ.refl _,trivial⟩;rfl;rfl;rfl)|intro _|refine aa.aA ?_)
  all_goals exact Tn
end Si
end Go.Proofs.YtbpednchkndocaaGreatDoor.Av
