/- Heads of sheets are read: what bits tell of a head, no program. Heads of sheets are read: the closures part and unless. Heads of sheets are read: sheethead.read, sheethead.Take. -/
import Derived.Test.YtbpednchkndocaaGreatDoorPy1
import Derived.Test.YtbpednchkndocaaGreatDoorPs1
import Derived.Test.YtbpednchkndocaaGreatDoorPy6
import Derived.Test.YtbpednchkndocaaGreatDoorPq6
set_option linter.unusedVariables false
set_option linter.unusedSimpArgs false
set_option maxRecDepth 100000
set_option maxHeartbeats 64000000
namespace Go.Proofs.YtbpednchkndocaaGreatDoor.Av
namespace Si
open Go Bt Sh
def ptX (s:List UInt8) (n:Nat) (chk:Int→Int) (st:Int×Nat):Int×Int×Nat :=
 if st.1=0 then (if 8*s.length<st.2+n then (0,2,st.2) else (nB ((ak s st.2).take n),chk (nB ((ak s st.2).take n)),st.2+n)) else (0,st.1,st.2)
def ckN (_:Int):Int:=0
def ckU (v f:Int) (n:Int):Int:=if n=v then 0 else f
def ckF (v:Int):Int:=if fOk v=true then 0 else 5
def ckQ (v:Int):Int:=if v=0 then 9 else 0
def spX (s:List UInt8):Nat→List Int→Int×Nat→List Int×Int×Nat
 |0,l,st=>(l,st)
 |f+1,l,st =>
  if (ptX s 1 ckN st).1=1∧(ptX s 1 ckN st).2.1=0 then
   (if l.length=8 then (l,13,(ptX s 1 ckN st).2.2) else spX s f (l++[(ptX s 8 ckN (ptX s 1 ckN st).2).1]) (ptX s 8 ckN (ptX s 1 ckN st).2).2)
  else (l,(ptX s 1 ckN st).2)
def wd:Nat→Nat
 |0=>8|1=>2|2=>3|3=>3|4=>1|5=>4|6=>5|_=>1
def ck:Nat→Int→Int
 |1=>ckU 2 5|3=>ckF|5=>ckU 0 6|6=>ckQ|7=>ckU 0 6|_=>ckN
def cN (s:List UInt8) (p:Nat):Nat→Int×Int×Nat
 |0=>(0,Mk.mkM s p)
 |k+1=>ptX s (wd k) (ck k) (cN s p k).2
def hdR (s:List UInt8) (p:Nat):Hd×Int×Nat :=
 (⟨(cN s p 1).1,(cN s p 3).1,(cN s p 4).1,decide ((cN s p 5).1=1),(cN s p 7).1,(spX s 9 [] (cN s p 8).2).1⟩,(spX s 9 [] (cN s p 8).2).2.1,(spX s 9 [] (cN s p 8).2).2.2)
def hd0:Hd:=⟨0,0,0,false,0,[]⟩
def hdT (s:List UInt8) (p:Nat):Hd×Int×Nat:=if (hdR s p).2.1=0 then hdR s p else (hd0,(hdR s p).2.1,p)
theorem uL (s:List UInt8) (n:Nat) (chk:Int→Int) (st:Int×Nat) (h:st.2≤8*s.length):(ptX s n chk st).2.2≤8*s.length∧st.2≤(ptX s n chk st).2.2:=by
 unfold ptX
 split
 ·split
  ·exact⟨h,Nat.le_refl _⟩
  ·constructor<;>simp only<;>omega
 ·exact⟨h,Nat.le_refl _⟩
theorem Kk {s:List UInt8} {n:Nat} {chk:Int→Int} {st:Int×Nat} (h:st.1≠0):ptX s n chk st=(0,st.1,st.2):=by
 unfold ptX;rw[if_neg h]
theorem Kh {s:List UInt8} {f:Nat} {l:List Int} {st:Int×Nat} (h:st.1≠0):spX s f l st=(l,st):=by
 cases f with
 |zero=>rfl
 |succ f =>
  simp only[spX,Kk h]
  rw[if_neg (by omega)]
theorem FB (s:List UInt8):∀(f:Nat) (l:List Int) (st:Int×Nat),st.2≤8*s.length→(spX s f l st).2.2≤8*s.length∧st.2≤(spX s f l st).2.2
 |0,_,st,h=>⟨h,Nat.le_refl _⟩
 |f+1,l,st,h=>by
  have h1:=uL s 1 ckN st h
  have h2:=uL s 8 ckN (ptX s 1 ckN st).2 h1.1
  have ih:=FB s f (l++[(ptX s 8 ckN (ptX s 1 ckN st).2).1]) (ptX s 8 ckN (ptX s 1 ckN st).2).2 h2.1
  simp only[spX]
  split
  ·split
   ·exact h1
   ·exact⟨ih.1,by omega⟩
  ·exact h1
theorem LH (s:List UInt8) (p:Nat) (h:p≤8*s.length):(Mk.mkM s p).2≤8*s.length∧p≤(Mk.mkM s p).2:=by
 have:=Mk.yL s p
 unfold Mk.mkM
 split
 ·split
  ·rename_i h0
   have:=this h0
   split
   ·constructor<;>simp only<;>omega
   ·exact⟨h,Nat.le_refl _⟩
  ·exact⟨h,Nat.le_refl _⟩
 ·exact⟨h,Nat.le_refl _⟩
theorem uM (s:List UInt8) (p:Nat) (h:p≤8*s.length):∀k,(cN s p k).2.2≤8*s.length∧p≤(cN s p k).2.2
 |0=>LH s p h
 |k+1=>by
  have ih:=uM s p h k
  have:=uL s (wd k) (ck k) (cN s p k).2 ih.1
  exact⟨this.1,Nat.le_trans ih.2 this.2⟩
theorem CH {s:List UInt8} {p k:Nat} (h:(cN s p k).2.1≠0):∀j,(cN s p (k+j)).2.1=(cN s p k).2.1
 |0=>rfl
 |j+1=>by
  have ih:=CH h j
  show (ptX s _ _ (cN s p (k+j)).2).2.1=_
  rw[Kk (by rw[ih];exact h)]
  exact ih
theorem jQ {s:List UInt8} {p k:Nat} (hk:k≤8) (h:(cN s p k).2.1≠0):hdT s p=(hd0,(cN s p k).2.1,p):=by
 have h8:=CH h (8 - k)
 rw[show k+(8 - k)=8 by omega]at h8
 have he:(hdR s p).2.1=(cN s p k).2.1:=by
  unfold hdR
  simp only
  rw[Kh (by rw[h8];exact h)]
  exact h8
 unfold hdT
 rw[if_neg (by rw[he];exact h),he]
theorem GZ (s:List UInt8) (p:Nat) (h:p≤8*s.length):(hdR s p).2.2≤8*s.length∧p≤(hdR s p).2.2:=by
 have h8:=uM s p h 8
 have:=FB s 9 [] (cN s p 8).2 h8.1
 exact⟨this.1,Nat.le_trans h8.2 this.2⟩
theorem BR (s:List UInt8) (p:Nat) (h:p≤8*s.length):(hdT s p).2.2≤8*s.length∧p≤(hdT s p).2.2:=by
 unfold hdT
 split
 ·exact GZ s p h
 ·exact⟨h,Nat.le_refl _⟩
end Si
namespace Si
open Go Bt Sh
attribute [local irreducible] aa ACalls
variable {gl:List (Nat×List D)}
theorem Ow (v:Int):ACalls (cxg gl) 194 [I v] [] (fun r H=>r=I (ckF v)∧H=[]):=by
 have hs:=Bi (gl:=gl) v
 unfold ckF
 generalize fOk v=b at *
 cases b
 all_goals
  refine ACalls.en Tryz.func194 Tryz.ntmps194 ?_
  repeat' (first|refine aa.aD ?_|refine aa.bh true ?_|refine aa.ah (hs) ?_|refine aa.au ?_|refine aa.ai ?_|intro _|refine aa.av ?_)
  all_goals first|exact⟨rfl,rfl⟩|omega
theorem Ov (v:Int):ACalls (cxg gl) 195 [I v] [] (fun r H=>r=I (ckQ v)∧H=[]):=by
 unfold ckQ
 by_cases h:v=0
 all_goals
  simp only[h,if_true,if_false]
  refine ACalls.en Tryz.func195 Tryz.ntmps195 ?_
  repeat' (first|refine aa.aD ?_|refine aa.bh true ?_|refine aa.ae ?_|refine aa.af ?_|intro _|refine aa.av ?_)
  all_goals first|exact⟨rfl,rfl⟩|omega
theorem Ou (n v f:Int):ACalls (cxg gl) 193 [I n, .ptr 0 0, .ptr 1 0] [.cells [I v], .cells [I f]] (fun r H=>r=I (ckU v f n)∧H=[.cells [I v], .cells [I f]]):=by
 unfold ckU
 by_cases h:n=v
 all_goals
  simp only[h,if_true,if_false]
  refine ACalls.en Tryz.func193 Tryz.ntmps193 ?_
  repeat' (first|refine aa.aD ?_|refine aa.bh true ?_|refine aa.ae ?_|refine aa.af ?_|intro _|refine aa.av ?_)
  all_goals first|exact⟨rfl,rfl⟩|omega
abbrev MP (a b:Nat):AV := .fn (.func 193) [] [.ptr a 0, .ptr b 0]
theorem MO (v f:Int):ACalls (cxg gl) 192 [I v,I f] [] (fun r H=>r=MP 0 1∧H=[.cells [I v], .cells [I f]]):=by
 refine ACalls.en Tryz.func192 Tryz.ntmps192 ?_
 repeat (first|refine aa.aD ?_|refine aa.bh true ?_|refine aa.ba ?_)
 (apply aa.xB 2;rfl;rfl;rfl;rfl;rfl)
 all_goals first|exact⟨rfl,rfl⟩|omega
abbrev PtO (s:List UInt8) (q:Nat) (e:Int):List aM:=[Rd s (q:Int), .cells [I e], .cells [.ptr 0 0]]
attribute [local irreducible] ak
theorem zH (s:List UInt8) (n:Nat) (st:Int×Nat) (hs:s.length<1000000000000000) (hq:st.2≤8*s.length) (hn:n≤32) :
  ACalls (cxg gl) 191 [I (n:Int), .d .nilf, .ptr 1 0, .ptr 2 0] (PtO s st.2 st.1)
   (fun r H=>r=I (ptX s n ckN st).1∧H=PtO s (ptX s n ckN st).2.2 (ptX s n ckN st).2.1):=by
 obtain⟨e,q⟩:=st
 have tk:=iO (gl:=gl) s q n hs hq hn
 unfold pkN tkN at tk
 unfold ptX
 simp only at hq ⊢
 generalize nB ((ak s q).take n)=V at *
 have d:=V
 unfold ckN
 by_cases he:e=0
 ·subst he
  by_cases h:8*s.length<q+n
  all_goals
   simp only[h,if_true,if_false]at tk ⊢
   refine ACalls.en Tryz.func191 Tryz.ntmps191 ?_
   repeat' (first|refine aa.aD ?_|refine aa.bh true ?_|refine aa.az [0] ( tk) ?_|refine aa.ai ?_|refine aa.aA ?_|refine aa.aj ?_|refine aa.bq ?_|refine aa.aK ?_|refine aa.aB ?_|(apply aa.opx;(apply ia;(iterate 5 rfl);kernel_rfl);rfl;rfl;rfl)|intro _|refine aa.av ?_)
   all_goals first|exact⟨rfl,rfl⟩|omega
 ·rw[if_neg he]
  refine ACalls.en Tryz.func191 Tryz.ntmps191 ?_
  repeat' (first|refine aa.aD ?_|refine aa.bh true ?_|refine aa.ai ?_|refine aa.aA ?_|refine aa.aj ?_|refine aa.bq ?_|refine aa.aK ?_|refine aa.aB ?_|(apply aa.opx;(apply ia;(iterate 5 rfl);kernel_rfl);rfl;rfl;rfl)|intro _|refine aa.av ?_)
  all_goals first|exact⟨rfl,rfl⟩|omega
theorem Nc (s:List UInt8) (n:Nat) (st:Int×Nat) (hs:s.length<1000000000000000) (hq:st.2≤8*s.length) (hn:n≤32) :
  ACalls (cxg gl) 191 [I (n:Int), .fn (.func 194) [] [], .ptr 1 0, .ptr 2 0] (PtO s st.2 st.1)
   (fun r H=>r=I (ptX s n ckF st).1∧H=PtO s (ptX s n ckF st).2.2 (ptX s n ckF st).2.1):=by
 obtain⟨e,q⟩:=st
 have tk:=iO (gl:=gl) s q n hs hq hn
 unfold pkN tkN at tk
 unfold ptX
 simp only at hq ⊢
 generalize nB ((ak s q).take n)=V at *
 have d:=Ow (gl:=gl) V
 by_cases he:e=0
 ·subst he
  by_cases h:8*s.length<q+n
  all_goals
   simp only[h,if_true,if_false]at tk ⊢
   refine ACalls.en Tryz.func191 Tryz.ntmps191 ?_
   repeat' (first|refine aa.aD ?_|refine aa.bh true ?_|refine aa.az [0] ( tk) ?_|refine aa.ah (d) ?_|refine aa.au ?_|refine aa.ai ?_|refine aa.aA ?_|refine aa.aj ?_|refine aa.bq ?_|refine aa.aK ?_|refine aa.aB ?_|(apply aa.opx;(apply ia;(iterate 5 rfl);kernel_rfl);rfl;rfl;rfl)|intro _|refine aa.av ?_)
   all_goals first|exact⟨rfl,rfl⟩|omega
 ·rw[if_neg he]
  refine ACalls.en Tryz.func191 Tryz.ntmps191 ?_
  repeat' (first|refine aa.aD ?_|refine aa.bh true ?_|refine aa.au ?_|refine aa.ai ?_|refine aa.aA ?_|refine aa.aj ?_|refine aa.bq ?_|refine aa.aK ?_|refine aa.aB ?_|(apply aa.opx;(apply ia;(iterate 5 rfl);kernel_rfl);rfl;rfl;rfl)|intro _|refine aa.av ?_)
  all_goals first|exact⟨rfl,rfl⟩|omega
theorem Nb (s:List UInt8) (n:Nat) (st:Int×Nat) (hs:s.length<1000000000000000) (hq:st.2≤8*s.length) (hn:n≤32) :
  ACalls (cxg gl) 191 [I (n:Int), .fn (.func 195) [] [], .ptr 1 0, .ptr 2 0] (PtO s st.2 st.1)
   (fun r H=>r=I (ptX s n ckQ st).1∧H=PtO s (ptX s n ckQ st).2.2 (ptX s n ckQ st).2.1):=by
 obtain⟨e,q⟩:=st
 have tk:=iO (gl:=gl) s q n hs hq hn
 unfold pkN tkN at tk
 unfold ptX
 simp only at hq ⊢
 generalize nB ((ak s q).take n)=V at *
 have d:=Ov (gl:=gl) V
 by_cases he:e=0
 ·subst he
  by_cases h:8*s.length<q+n
  all_goals
   simp only[h,if_true,if_false]at tk ⊢
   refine ACalls.en Tryz.func191 Tryz.ntmps191 ?_
   repeat' (first|refine aa.aD ?_|refine aa.bh true ?_|refine aa.az [0] ( tk) ?_|refine aa.ah (d) ?_|refine aa.au ?_|refine aa.ai ?_|refine aa.aA ?_|refine aa.aj ?_|refine aa.bq ?_|refine aa.aK ?_|refine aa.aB ?_|(apply aa.opx;(apply ia;(iterate 5 rfl);kernel_rfl);rfl;rfl;rfl)|intro _|refine aa.av ?_)
   all_goals first|exact⟨rfl,rfl⟩|omega
 ·rw[if_neg he]
  refine ACalls.en Tryz.func191 Tryz.ntmps191 ?_
  repeat' (first|refine aa.aD ?_|refine aa.bh true ?_|refine aa.au ?_|refine aa.ai ?_|refine aa.aA ?_|refine aa.aj ?_|refine aa.bq ?_|refine aa.aK ?_|refine aa.aB ?_|(apply aa.opx;(apply ia;(iterate 5 rfl);kernel_rfl);rfl;rfl;rfl)|intro _|refine aa.av ?_)
  all_goals first|exact⟨rfl,rfl⟩|omega
theorem Gd (s:List UInt8) (n:Nat) (v f:Int) (st:Int×Nat) (hs:s.length<1000000000000000) (hq:st.2≤8*s.length) (hn:n≤32) :
  ACalls (cxg gl) 191 [I (n:Int),MP 3 4, .ptr 1 0, .ptr 2 0] (PtO s st.2 st.1++[.cells [I v], .cells [I f]])
   (fun r H=>r=I (ptX s n (ckU v f) st).1∧H=PtO s (ptX s n (ckU v f) st).2.2 (ptX s n (ckU v f) st).2.1++[.cells [I v], .cells [I f]]):=by
 obtain⟨e,q⟩:=st
 have tk:=iO (gl:=gl) s q n hs hq hn
 unfold pkN tkN at tk
 unfold ptX
 simp only at hq ⊢
 generalize nB ((ak s q).take n)=V at *
 have d:=Ou (gl:=gl) V v f
 by_cases he:e=0
 ·subst he
  by_cases h:8*s.length<q+n
  all_goals
   simp only[h,if_true,if_false]at tk ⊢
   refine ACalls.en Tryz.func191 Tryz.ntmps191 ?_
   repeat' (first|refine aa.aD ?_|refine aa.bh true ?_|refine aa.az [0] ( tk) ?_|refine aa.az [3,4] ( d) ?_|refine aa.au ?_|refine aa.ai ?_|refine aa.aA ?_|refine aa.aj ?_|refine aa.bq ?_|refine aa.aK ?_|refine aa.aB ?_|(apply aa.opx;(apply ia;(iterate 5 rfl);kernel_rfl);rfl;rfl;rfl)|intro _|refine aa.av ?_)
   all_goals first|exact⟨rfl,rfl⟩|omega
 ·rw[if_neg he]
  refine ACalls.en Tryz.func191 Tryz.ntmps191 ?_
  repeat' (first|refine aa.aD ?_|refine aa.bh true ?_|refine aa.au ?_|refine aa.ai ?_|refine aa.aA ?_|refine aa.aj ?_|refine aa.bq ?_|refine aa.aK ?_|refine aa.aB ?_|(apply aa.opx;(apply ia;(iterate 5 rfl);kernel_rfl);rfl;rfl;rfl)|intro _|refine aa.av ?_)
  all_goals first|exact⟨rfl,rfl⟩|omega
end Si
namespace Si
open Go Bt Sh
attribute [local irreducible] aa ACalls aO aC bB aR
variable {gl:List (Nat×List D)}
abbrev hdD (h:Hd):D := .agg [Nn h.ref,Nn h.flags,Nn h.fmt, .bool h.inter,Nn h.quant, .sl 1 (suD h.supp), .aY,Nn 0]
abbrev BB:AV := .fn (.func 191) [] [.ptr 4 0, .ptr 1 0]
abbrev RdO (s:List UInt8) (x1 x3 x4 x5 x7:Int) (l:List Int) (st:Int×Nat):List aM :=
 [Rd s (st.2:Int), .cells [.ptr 0 0], .cells [I 0,I 0,I 0,B false,I 0, .d .aY, .d .aY,I 0], .cells [I x1,I x3,I x4,B (decide (x5=1)),I x7, .own 1 (suD l) 11, .d .aY,I 0], .cells [I st.1], .cells [I 2], .cells [I 5], .cells [I 0], .cells [I 6], .cells [I 0], .cells [I 6], .front 3 1 (suD l).length]
theorem IJ (l:List Int) (v:Int):suD (l++[v])=suD l++[Nn v]:=by simp[suD]
attribute [local irreducible] ptX spX suD
theorem Ll (s:List UInt8) (p:Nat) (hs:s.length<1000000000000000) (hp:p≤8*s.length) :
  ACalls (cxg gl) 126 [.ptr 0 0] [Rd s (p:Int)] (fun r H=>r = .bK [.d (hdD (hdR s p).1),I (hdR s p).2.1]∧H=[Rd s ((hdR s p).2.2:Int)]):=by
 have mk:=Mk.LN (gl:=gl) s p hs hp
 have le:=uM s p hp
 have q1:=zH (gl:=gl) s 8 (cN s p 0).2 hs (le 0).1 (by decide)
 have q2:=Gd (gl:=gl) s 2 2 5 (cN s p 1).2 hs (le 1).1 (by decide)
 have q3:=zH (gl:=gl) s 3 (cN s p 2).2 hs (le 2).1 (by decide)
 have q4:=Nc (gl:=gl) s 3 (cN s p 3).2 hs (le 3).1 (by decide)
 have q5:=zH (gl:=gl) s 1 (cN s p 4).2 hs (le 4).1 (by decide)
 have q6:=Gd (gl:=gl) s 4 0 6 (cN s p 5).2 hs (le 5).1 (by decide)
 have q7:=Nb (gl:=gl) s 5 (cN s p 6).2 hs (le 6).1 (by decide)
 have q8:=Gd (gl:=gl) s 1 0 6 (cN s p 7).2 hs (le 7).1 (by decide)
 have l8:=(le 8).1
 have e0:cN s p 0=(0,Mk.mkM s p):=rfl
 have e1:cN s p 1=ptX s 8 ckN (cN s p 0).2:=rfl
 have e2:cN s p 2=ptX s 2 (ckU 2 5) (cN s p 1).2:=rfl
 have e3:cN s p 3=ptX s 3 ckN (cN s p 2).2:=rfl
 have e4:cN s p 4=ptX s 3 ckF (cN s p 3).2:=rfl
 have e5:cN s p 5=ptX s 1 ckN (cN s p 4).2:=rfl
 have e6:cN s p 6=ptX s 4 (ckU 0 6) (cN s p 5).2:=rfl
 have e7:cN s p 7=ptX s 5 ckQ (cN s p 6).2:=rfl
 have e8:cN s p 8=ptX s 1 (ckU 0 6) (cN s p 7).2:=rfl
 rw[←e1]at q1
 rw[←e2]at q2
 rw[←e3]at q3
 rw[←e4]at q4
 rw[←e5]at q5
 rw[←e6]at q6
 rw[←e7]at q7
 rw[←e8]at q8
 have m0:Mk.mkM s p=(cN s p 0).2:=rfl
 rw[m0]at mk
 unfold hdR
 clear e0 e1 e2 e3 e4 e5 e6 e7 e8 m0 le
 generalize cN s p 0=x0 at *
 generalize cN s p 1=x1 at *
 generalize cN s p 2=x2 at *
 generalize cN s p 3=x3 at *
 generalize cN s p 4=x4 at *
 generalize cN s p 5=x5 at *
 generalize cN s p 6=x6 at *
 generalize cN s p 7=x7 at *
 generalize cN s p 8=x8 at *
 obtain⟨y0,z0,w0⟩:=x0
 obtain⟨y1,z1,w1⟩:=x1
 obtain⟨y2,z2,w2⟩:=x2
 obtain⟨y3,z3,w3⟩:=x3
 obtain⟨y4,z4,w4⟩:=x4
 obtain⟨y5,z5,w5⟩:=x5
 obtain⟨y6,z6,w6⟩:=x6
 obtain⟨y7,z7,w7⟩:=x7
 obtain⟨y8,z8,w8⟩:=x8
 simp only at mk q1 q2 q3 q4 q5 q6 q7 q8 l8 ⊢
 have un1:=MO (gl:=gl) 2 5
 have un2:=MO (gl:=gl) 0 6
 have s0:suD []=[]:=by unfold suD;rfl
 obtain⟨Z,hZ⟩:∃Z,Z=spX s 9 [] (z8,w8):=⟨_,rfl⟩
 rw[←hZ]
 refine ACalls.en Tryz.func126 Tryz.ntmps126 ?_
 repeat (first|refine aa.aD ?_|refine aa.bh true ?_|refine aa.az [0] ( mk) ?_|refine aa.az [0,4,1] ( q1) ?_|refine aa.az [] ( un1) ?_|refine aa.az [0,4,1,5,6] ( q2) ?_|refine aa.az [0,4,1] ( q3) ?_|refine aa.az [0,4,1] ( q4) ?_|refine aa.az [0,4,1] ( q5) ?_|refine aa.az [] ( un2) ?_|refine aa.az [0,4,1,7,8] ( q6) ?_|refine aa.az [0,4,1] ( q7) ?_|refine aa.az [0,4,1,9,10] ( q8) ?_|refine aa.ae ?_|refine aa.af ?_|refine aa.au ?_|refine aa.ai ?_|refine aa.aG ?_|refine aa.ba ?_|refine aa.aA ?_|refine aa.aj ?_|refine aa.aB ?_|refine aa.aF ?_)
 (apply aa.nS 3 5 3 1;rfl;rfl;simp only[List.set_cons_zero,List.set_cons_succ,List.length_cons,List.length_nil,Nat.reduceAdd,List.cons_append,List.nil_append])
 (apply aa.mS 3 5;rfl;rfl;rfl;rfl;simp only[List.set_cons_zero,List.set_cons_succ])
 refine aa.weak (env':=[(6,BB),(5, .ptr 4 0),(4, .ptr 3 0),(2, .ptr 2 0)]) ⟨rfl,rfl,rfl,rfl,trivial⟩ ?_
 refine aa.loop (fun m env H=>∃(l:List Int) (st:Int×Nat),m=9 - l.length∧l.length≤8∧st.2≤8*s.length∧Z=spX s (9 - l.length) l st∧env=[(6,BB),(5, .ptr 4 0),(4, .ptr 3 0),(2, .ptr 2 0)] ∧
   H=RdO s y1 y3 y4 y5 y7 l st) 9
  ⟨[],(z8,w8),rfl,by decide,l8,hZ,rfl,by unfold RdO;rw[s0]⟩ ?_
 rintro m env H ⟨l,st,rfl,hl,hq,hsp,rfl,rfl⟩
 obtain⟨f,hf⟩:∃f,9 - l.length=f+1:=⟨8 - l.length,by omega⟩
 rw[hf,spX]at hsp
 have c1:=zH (gl:=gl) s 1 st hs hq (by decide)
 have h1:=uL s 1 ckN st hq
 have c8:=zH (gl:=gl) s 8 (ptX s 1 ckN st).2 hs h1.1 (by decide)
 have h8:=uL s 8 ckN (ptX s 1 ckN st).2 h1.1
 generalize ptX s 1 ckN st=X at *
 generalize ptX s 8 ckN X.2=Y at *
 obtain⟨v,e',q'⟩:=X
 obtain⟨u,e'',q''⟩:=Y
 obtain⟨e,q⟩:=st
 simp only at c1 c8 h1 h8 hsp hq
 have hsl:=tu l
 unfold RdO
 simp only
 by_cases hc:v=1∧e'=0
 ·rw[if_pos hc]at hsp
  obtain⟨rfl,rfl⟩:=hc
  by_cases h:l.length=8
  ·rw[if_pos h]at hsp
   rw[hsp]
   (apply aa.pQ 3 5;rfl;rfl;simp only[List.set_cons_zero,List.set_cons_succ])
   repeat' (first|refine aa.aD ?_|(apply aa.fZ [0,1,2,3] 4;rfl)|refine aR.bQ ?_|(apply aR.go)|(apply aR.pure true;rfl;exact fun _ _ _ h=>h;(iterate 6 rfl);kernel_rfl;kernel_rfl;first|exact True.intro|omega|(rw[hsl];omega))|refine aR.eO ?_|(apply aR.two;rfl;rfl;rfl;kernel_rfl)|(exact aa.cL)|(apply aa.bV;(repeat' (first|exact bz.nil|(apply bz.cons;rfl)));rfl)|(apply aa.q true;rfl;rfl;rfl;rfl;first|exact True.intro|omega|(simp only[tn,Int.reduceToNat];omega)|(rw[hsl];omega))|refine aa.az [0,4,1] ( c1) ?_|refine aa.ae ?_|refine aa.af ?_|refine aa.au ?_|refine aa.ai ?_|refine aa.aG ?_|refine aa.ba ?_|refine aa.aA ?_|refine aa.aj ?_|refine aa.aB ?_|refine aa.aF ?_|intro _|(apply aa.gD;rfl;rfl;rfl)|refine aa.av ?_|refine aa.aP ?_|refine aa.aI ?_)
   all_goals first|exact⟨rfl,rfl⟩|omega
  ·rw[if_neg h]at hsp
   have e9:9 - (l++[u]).length=f:=by rw[List.length_append,List.length_singleton];omega
   have hsp':Z=spX s (9 - (l++[u]).length) (l++[u]) (e'',q''):=by rw[e9];exact hsp
   have hl':(l++[u]).length≤8:=by rw[List.length_append,List.length_singleton];omega
   have hm':9 - (l++[u]).length<9 - l.length:=by omega
   repeat' (first|refine aa.aD ?_|(apply aa.fZ [0,1,2,3,4,5,6,7] 8;rfl)|refine aR.bQ ?_|(apply aR.go)|(apply aR.pure true;rfl;exact fun _ _ _ h=>h;(iterate 6 rfl);kernel_rfl;kernel_rfl;first|exact True.intro|omega|(rw[hsl];omega))|refine aR.eO ?_|(apply aR.two;rfl;rfl;rfl;kernel_rfl)|(exact aa.cL)|(apply aa.bV;(repeat' (first|exact bz.nil|(apply bz.cons;rfl)));rfl)|(apply aa.append;(iterate 11 rfl);(first|rfl|(simp only[List.length_append,List.length_map,List.length_cons,List.length_nil];omega));(first|(simp only[List.length_append,List.length_map,List.length_cons,List.length_nil];omega)|(rw[hsl];omega));simp only[List.set_cons_zero,List.set_cons_succ])|(apply aa.q true;rfl;rfl;rfl;rfl;first|exact True.intro|omega|(simp only[tn,Int.reduceToNat];omega)|(rw[hsl];omega))|refine aa.az [0,4,1] ( c1) ?_|refine aa.az [0,4,1] ( c8) ?_|refine aa.ae ?_|refine aa.af ?_|refine aa.au ?_|refine aa.ai ?_|refine aa.aG ?_|refine aa.ba ?_|refine aa.aA ?_|refine aa.aj ?_|refine aa.aB ?_|refine aa.aF ?_|intro _|(apply aa.gD;rfl;rfl;rfl)|refine aa.av ?_|refine aa.aP ?_|refine aa.aI ?_)
   all_goals exact aa.round [(6,BB),(5, .ptr 4 0),(4, .ptr 3 0),(2, .ptr 2 0)] (9 - (l++[u]).length) hm' ⟨rfl,rfl,rfl,rfl,trivial⟩ ⟨l++[u],(e'',q''),rfl,hl',h8.1,hsp',rfl,by rw[IJ]⟩
 ·rw[if_neg hc]at hsp
  rw[hsp]
  (apply aa.pQ 3 5;rfl;rfl;simp only[List.set_cons_zero,List.set_cons_succ])
  repeat' (first|refine aa.aD ?_|(apply aa.fZ [0,1,2,3] 4;rfl)|refine aR.bQ ?_|(apply aR.go)|refine aR.kx true ?_|refine aR.eO ?_|(apply aR.two;rfl;rfl;rfl;kernel_rfl)|(exact aa.cL)|(apply aa.bV;(repeat' (first|exact bz.nil|(apply bz.cons;rfl)));rfl)|refine aa.bh true ?_|refine aa.az [0,4,1] ( c1) ?_|refine aa.ae ?_|refine aa.af ?_|refine aa.au ?_|refine aa.ai ?_|refine aa.aG ?_|refine aa.ba ?_|refine aa.aA ?_|refine aa.aj ?_|refine aa.aB ?_|refine aa.aF ?_|intro _|(apply aa.gD;rfl;rfl;rfl)|refine aa.av ?_|refine aa.aP ?_|refine aa.aI ?_)
  all_goals first|exact⟨rfl,rfl⟩|omega
abbrev Nw:D := .agg [Nn 0,Nn 0,Nn 0, .bool false,Nn 0, .aY, .aY,Nn 0]
theorem jr:d9 Nw (hdD hd0):=Ci.vJ rfl (by simp[D.one]) (fun i c d hc hd=>by
 match i,hc,hd with
 |0,hc,hd|1,hc,hd|2,hc,hd|3,hc,hd|4,hc,hd|6,hc,hd|7,hc,hd=>cases hc;cases hd;exact d9.refl _
 |5,hc,hd =>
  cases hc
  have e:suD hd0.supp=[]:=by unfold suD hd0;rfl
  rw[e]at hd
  cases hd;exact d9.aY 1)
theorem FE (s:List UInt8) (p:Nat) (hs:s.length<1000000000000000) (hp:p≤8*s.length) :
  ACalls (cxg gl) 55 [.ptr 0 0] [Rd s (p:Int)] (fun r H=>r = .bK [.d (hdD (hdT s p).1),I (hdT s p).2.1]∧H=[Rd s ((hdT s p).2.2:Int)]):=by
 have a0:=qX (gl:=gl) s p
 have rc:=Ll (gl:=gl) s p hs hp
 have hle:=GZ s p hp
 unfold hdT
 generalize hdR s p=R at *
 obtain⟨h,e,q⟩:=R
 simp only at rc hle ⊢
 have sk:=fG (gl:=gl) s (q:Int) p hs ⟨by omega,by omega⟩
 by_cases he:e=0
 ·subst he
  simp only[if_true]
  refine ACalls.en Tryz.func55 Tryz.ntmps55 ?_
  repeat' (first|refine aa.aD ?_|refine aa.bh true ?_|refine aa.az [0] ( a0) ?_|refine aa.az [0] ( rc) ?_|refine aa.ai ?_|refine aa.aG ?_|refine aa.aA ?_|refine aa.aL ?_|refine aa.aK ?_|intro _|refine aa.av ?_)
  all_goals first|exact⟨rfl,rfl⟩|omega
 ·rw[if_neg he]
  refine ACalls.en Tryz.func55 Tryz.ntmps55 ?_
  repeat' (first|refine aa.aD ?_|refine aa.bh true ?_|refine aa.az [0] ( a0) ?_|refine aa.az [0] ( rc) ?_|refine aa.az [0] ( sk) ?_|refine aa.ai ?_|refine aa.aG ?_|refine aa.aA ?_|refine aa.aL ?_|refine aa.aK ?_|(apply aa.gN (.bK [.d (hdD hd0),I e]);rfl;exact aT.bK ⟨aT.d jr,aT.refl _,trivial⟩;rfl;rfl;rfl)|intro _|refine aa.av ?_)
  all_goals first|exact⟨rfl,rfl⟩|omega
end Si
end Go.Proofs.YtbpednchkndocaaGreatDoor.Av
