/- Sheets as arguments: whatever a sheet is by its type, it reads as rows of cells. Sheets that are light. A sheet's digits: the document's answer. The law SheetoutPuts. -/
import Derived.Test.YtbpednchkndocaaGreatDoorPy5
set_option linter.unusedVariables false
set_option linter.unusedSimpArgs false
set_option maxRecDepth 100000
set_option maxHeartbeats 64000000
namespace Go.Proofs.YtbpednchkndocaaGreatDoor.Av
section
open Go
def CW(e f:D):Prop:=e.cells.length=f.cells.length∧(∀c∈f.cells,c.one=true)∧∀(j:Nat) (c d:D),e.cells[j]?=some c→f.cells[j]?=some d→bW c d
theorem bW.sl{sz:Nat}{es fs:List D}(hl:es.length=fs.length)(h:∀(i:Nat) (e f:D),es[i]?=some e→fs[i]?=some f→CW e f):bW (.sl sz es) (.sl sz fs):=fun imm v hv=>by
 have at_:∀{i:Nat} {f:D},fs[i]?=some f→∃e,es[i]?=some e∧CW e f:=fun {i f} hf=>by
  have hi:i<es.length:=by have:=aI hf;omega
  exact⟨_,List.getElem?_eq_getElem hi,h i _ f (List.getElem?_eq_getElem hi) hf⟩
 cases hv with
 |sl0 a cap sz =>
  have:fs=[]:=List.eq_nil_of_length_eq_zero (by simpa using hl.symm);subst this;exact .sl0 _ _ _
 | sl b o cap sz es hne hcap hsz hone hin hh =>
  rw[hl]at hcap hin ⊢;refine .sl b o cap sz fs (fun e=>hne (List.eq_nil_of_length_eq_zero (by rw[hl,e];rfl))) hcap (fun f hf=>?_) (fun f hf=>?_) hin fun i f j d hf hd=>?_
  ·obtain⟨i,hi⟩:=List.getElem?_of_mem hf;obtain⟨e,he,hc⟩:=at_ hi;rw[←hc.1];exact hsz e (List.mem_of_getElem? he)
  ·obtain⟨i,hi⟩:=List.getElem?_of_mem hf;obtain⟨e,he,hc⟩:=at_ hi;exact hc.2.1
  ·obtain⟨e,he,hc⟩:=at_ hf;have hj:j<e.cells.length:=by have:=aI hd;rw[hc.1];exact this
   exact hc.2.2 j _ d (List.getElem?_eq_getElem hj) hd imm _ (hh i e j _ he (List.getElem?_eq_getElem hj))
theorem CW.zo{l:List D}{cs:List D}(h:CW (.agg l) (.agg cs)):bW (.agg l) (.agg cs) :=
 bW.agg h.1.symm h.2.1 fun i c d hc hd=>h.2.2 i c d hc hd
end
namespace Sh
open Go Bt Tc Co
abbrev TyE(f t:Nat)(x:D):Prop:=TyC tys f t x.cells∧(agT tys t=true→∃l,x = .agg l)
theorem Qp(f:Nat)(x:D)(h:TyE (f+2) 235 x):∃e:Ev,x=evD e∧Br e:=by
 obtain⟨hc,ha⟩:=h;obtain⟨l,rfl⟩:=ha rfl;change l.length=3∧∀o t',(o,t')∈[((0:Nat),(4:Nat)),(1,3),(2,3)]→TyC tys (f+1) t' ((l.drop o).take (szT tys t'))at hc;obtain⟨hl,hf⟩:=hc;have h0:=hf 0 4 (by simp);have h1:=hf 1 3 (by simp);have h2:=hf 2 3 (by simp)
 match l,hl with
 |[a,b,c],_ =>
  obtain⟨la,rfl⟩:=ug h0;obtain⟨ru,rfl,r1⟩:=gX h1;obtain⟨le,rfl,r2⟩:=gX h2;exact⟨⟨la,ru,le⟩,rfl,r1,r2⟩
theorem zm(f:Nat):∀es:List D,(∀x∈es,TyE (f+2) 235 x)→∃l:List Ev,es=bS l∧∀e∈l,Br e
 |[],_=>⟨[],rfl,by simp⟩
 | x :: r, h => by
  obtain⟨e,rfl,he⟩:=Qp f x (h x (by simp));obtain⟨l,rfl,hl⟩:=zm f r fun y hy=>h y (by simp[hy])
  exact⟨e::l,rfl,fun q hq=>by
   rcases List.mem_cons.1 hq with rfl|hq
   ·exact he
   ·exact hl q hq⟩
theorem nZ(f:Nat){d:D}(h:[d]=[.aU]∨∃es,[d]=[.sl 3 es]∧es.length≤9223372036854775807∧∀x∈es,TyE (f+2) 235 x):∃l,bW d (evS l)∧EP l:=by
 rcases h with h|⟨es,h1,h2,h3⟩
 ·obtain rfl:d = .aU:=by simpa using h
  exact⟨[],bW.aU 3,by decide,by simp⟩
 ·obtain rfl:d = .sl 3 es:=by simpa using h1
  obtain⟨l,rfl,hl⟩:=zm f es h3;rw[fS]at h2;exact⟨l,bW.refl _,h2,hl⟩
theorem NZ(f:Nat)(x:D)(h:TyE (f+5) 96 x):∃c:Cel,(∃l,x = .agg l)∧CW x (kU c)∧LS c:=by
 obtain⟨hc,ha⟩:=h;obtain⟨l,rfl⟩:=ha rfl;change l.length=18∧∀o t',(o,t')∈[((0:Nat),(3:Nat)),(1,4),(2,3),(3,3),(4,91),(6,92),(12,94)]→TyC tys (f+4) t' ((l.drop o).take (szT tys t'))at hc;obtain⟨hl,hf⟩:=hc;have h0:=hf 0 3 (by simp);have h1:=hf 1 4 (by simp);have h2:=hf 2 3 (by simp);have h3:=hf 3 3 (by simp);have h4:=hf 4 91 (by simp);have h6:=hf 6 92 (by simp);have h12:=hf 12 94 (by simp);clear hf
 match l,hl with
 |[a0,a1,a2,a3,a4,a5,a6,a7,a8,a9,a10,a11,a12,a13,a14,a15,a16,a17],_ =>
  obtain⟨st,rfl,q0⟩:=gX h0;obtain⟨sk,rfl⟩:=ug h1;obtain⟨ki,rfl,q2⟩:=gX h2;obtain⟨sp,rfl,q3⟩:=gX h3;obtain⟨mx,rfl,q4⟩:=gX (h4.2 0 (by decide));obtain⟨my,rfl,q5⟩:=gX (h4.2 1 (by decide));obtain⟨d0,rfl,_⟩:=gX (h6.2 0 (by decide));obtain⟨d1,rfl,_⟩:=gX (h6.2 1 (by decide));obtain⟨d2,rfl,_⟩:=gX (h6.2 2 (by decide));obtain⟨d3,rfl,_⟩:=gX (h6.2 3 (by decide));obtain⟨d4,rfl,_⟩:=gX (h6.2 4 (by decide));obtain⟨d5,rfl,_⟩:=gX (h6.2 5 (by decide));obtain⟨e0,w0,v0⟩:=nZ f (h12.2 0 (by decide));obtain⟨e1,w1,v1⟩:=nZ f (h12.2 1 (by decide));obtain⟨e2,w2,v2⟩:=nZ f (h12.2 2 (by decide));obtain⟨e3,w3,v3⟩:=nZ f (h12.2 3 (by decide));obtain⟨e4,w4,v4⟩:=nZ f (h12.2 4 (by decide));obtain⟨e5,w5,v5⟩:=nZ f (h12.2 5 (by decide));refine⟨⟨st,sk,ki,sp,mx,my,d0,d1,d2,d3,d4,d5,e0,e1,e2,e3,e4,e5⟩,⟨_,rfl⟩,⟨rfl,by simp[D.cells,D.one],fun i c d hc hd=>?_⟩,q0,q2,q3,q4,q5,v0,v1,v2,v3,v4,v5⟩
  match i,hc,hd with
  |0,hc,hd|1,hc,hd|2,hc,hd|3,hc,hd|4,hc,hd|5,hc,hd|6,hc,hd|7,hc,hd|8,hc,hd|9,hc,hd|10,hc,hd|11,hc,hd=>cases hc;cases hd;exact bW.refl _
  |12,hc,hd=>cases hc;cases hd;exact w0
  |13,hc,hd=>cases hc;cases hd;exact w1
  |14,hc,hd=>cases hc;cases hd;exact w2
  |15,hc,hd=>cases hc;cases hd;exact w3
  |16,hc,hd=>cases hc;cases hd;exact w4
  |17,hc,hd=>cases hc;cases hd;exact w5
  |i+18,hc,hd=>simp[D.cells]at hc
theorem tG{α:Type}{P:D→Prop}{R:D→α→Prop}{I:α→Prop}(mk:∀x,P x→∃a,R x a∧I a):∀es:List D,(∀x∈es,P x)→∃l:List α,es.length=l.length∧(∀(i:Nat) (x:D) (a:α),es[i]?=some x→l[i]?=some a→R x a)∧∀a∈l,I a
 |[],_=>⟨[],rfl,by simp,by simp⟩
 | x :: r, h => by
  obtain⟨a,h1,h2⟩:=mk x (h x (by simp));obtain⟨l,g1,g2,g3⟩:=tG mk r fun y hy=>h y (by simp[hy])
  refine⟨a::l,by simp[g1],fun i y b hy hb=>?_,fun b hb=>?_⟩
  ·cases i with
   |zero=>simp at hy hb;subst hy;subst hb;exact h1
   |succ i=>exact g2 i y b (by simpa using hy) (by simpa using hb)
  ·rcases List.mem_cons.1 hb with rfl|hb
   ·exact h2
   ·exact g3 b hb
def Big(n:Nat):Prop:=n≤9223372036854775807
structure RwI(r:Rw):Prop where
 id:I64 r.id
 quant:I64 r.quant
 len:Big r.cells.length
 cells:∀c∈r.cells,LS c
theorem H0(f:Nat){d:D}(h:[d]=[.aU]∨∃es,[d]=[.sl 18 es]∧es.length≤9223372036854775807∧∀x∈es,TyE (f+5) 96 x):∃l,bW d (.sl 18 (bD l))∧Big l.length∧∀c∈l,LS c:=by
 rcases h with h|⟨es,h1,h2,h3⟩
 ·obtain rfl:d = .aU:=by simpa using h
  exact⟨[],bW.aU 18,by unfold Big;decide,by simp⟩
 ·obtain rfl:d = .sl 18 es:=by simpa using h1
  obtain⟨l,g1,g2,g3⟩:=tG (R:=fun x c=>CW x (kU c)) (I:=LS) (fun x hx=>by
   obtain⟨c,_,h1,h2⟩:=NZ f x hx
   exact⟨c,h1,h2⟩) es h3
  refine⟨l,bW.sl (by rw[ig];exact g1) (fun i e c he hc=>?_),by unfold Big;omega,g3⟩;have hi:i<l.length:=by have:=aI he;omega
  have:(bD l)[i]?=some (kU l[i]):=by simp[bD,hi]
  rw[this]at hc;cases hc;exact g2 i e _ he (List.getElem?_eq_getElem hi)
theorem MC(f:Nat)(x:D)(h:TyE (f+7) 90 x):∃r:Rw,CW x (rwD r)∧RwI r:=by
 obtain⟨hc,ha⟩:=h;obtain⟨l,rfl⟩:=ha rfl;change l.length=4∧∀o t',(o,t')∈[((0:Nat),(4:Nat)),(1,3),(2,3),(3,88)]→TyC tys (f+6) t' ((l.drop o).take (szT tys t'))at hc;obtain⟨hl,hf⟩:=hc;have h0:=hf 0 4 (by simp);have h1:=hf 1 3 (by simp);have h2:=hf 2 3 (by simp);have h3:=hf 3 88 (by simp)
 match l,hl with
 |[a,b,c,d],_ =>
  obtain⟨hd,rfl⟩:=ug h0;obtain⟨id,rfl,r1⟩:=gX h1;obtain⟨q,rfl,r2⟩:=gX h2;obtain⟨cs,w,k1,k2⟩:=H0 f h3;refine⟨⟨hd,id,q,cs⟩,⟨rfl,by simp[D.cells,D.one],fun i c d hc hd=>?_⟩,r1,r2,k1,k2⟩
  match i,hc,hd with
  |0,hc,hd|1,hc,hd|2,hc,hd=>cases hc;cases hd;exact bW.refl _
  |3,hc,hd=>cases hc;cases hd;exact w
  |i+4,hc,hd=>simp[D.cells]at hc
theorem Jf(f:Nat){d:D}(h:[d]=[.aU]∨∃es,[d]=[.sl 4 es]∧es.length≤9223372036854775807∧∀x∈es,TyE (f+7) 90 x):∃l,bW d (.sl 4 (rsD l))∧Big l.length∧∀r∈l,RwI r:=by
 rcases h with h|⟨es,h1,h2,h3⟩
 ·obtain rfl:d = .aU:=by simpa using h
  exact⟨[],bW.aU 4,by unfold Big;decide,by simp⟩
 ·obtain rfl:d = .sl 4 es:=by simpa using h1
  obtain⟨l,g1,g2,g3⟩:=tG (R:=fun x c=>CW x (rwD c)) (I:=RwI) (fun x hx=>MC f x hx) es h3;refine⟨l,bW.sl (by rw[ko];exact g1) (fun i e c he hc=>?_),by unfold Big;omega,g3⟩;have hi:i<l.length:=by have:=aI he;omega
  have:(rsD l)[i]?=some (rwD l[i]):=by simp[rsD,hi]
  rw[this]at hc;cases hc;exact g2 i e _ he (List.getElem?_eq_getElem hi)
theorem II(f:Nat){d:D}(h:[d]=[.aU]∨∃es,[d]=[.sl 1 es]∧es.length≤9223372036854775807∧∀x∈es,TyE (f+1) 3 x):∃l,bW d (.sl 1 (suD l))∧Big l.length∧∀n∈l,I64 n:=by
 rcases h with h|⟨es,h1,h2,h3⟩
 ·obtain rfl:d = .aU:=by simpa using h
  exact⟨[],bW.aU 1,by unfold Big;decide,by simp⟩
 ·obtain rfl:d = .sl 1 es:=by simpa using h1
  obtain⟨l,g1,g2,g3⟩:=tG (R:=fun x (n:Int)=>x.cells=[In n]) (I:=I64) (fun x hx=>by
   obtain⟨n,e1,e2⟩:=hx.1
   exact⟨n,e1,LH e2⟩) es h3
  refine⟨l,bW.sl (by rw[oC];exact g1) (fun i e c he hc=>?_),by unfold Big;omega,g3⟩;have hi:i<l.length:=by have:=aI he;omega
  have:(suD l)[i]?=some (In l[i]):=by simp[suD,hi]
  rw[this]at hc;cases hc;have hcell:=g2 i e _ he (List.getElem?_eq_getElem hi);refine⟨by rw[hcell];rfl,by simp[D.cells,D.one],fun j c d hc hd=>?_⟩;rw[hcell]at hc;cases j with
  |zero=>cases hc;cases hd;exact bW.refl _
  |succ j=>simp at hc
structure StI(h:Hd)(rs:List Rw)(z:Int):Prop where
 ref:I64 h.ref
 flags:I64 h.flags
 fmt:I64 h.fmt
 quant:I64 h.quant
 zeros:I64 z
 supl:Big h.supp.length
 supp:∀n∈h.supp,I64 n
 len:Big rs.length
 rows:∀r∈rs,RwI r
theorem uu(f:Nat)(x:D)(h:TyE (f+9) 30 x):∃(hd:Hd) (rs:List Rw) (z:Int),(∃l,x = .agg l)∧CW x (shD hd (rsD rs) z)∧StI hd rs z:=by
 obtain⟨hc,ha⟩:=h;obtain⟨l,rfl⟩:=ha rfl;change l.length=8∧∀o t',(o,t')∈[((0:Nat),(3:Nat)),(1,3),(2,3),(3,4),(4,3),(5,27),(6,28),(7,3)]→TyC tys (f+8) t' ((l.drop o).take (szT tys t'))at hc;obtain⟨hl,hf⟩:=hc;have h0:=hf 0 3 (by simp);have h1:=hf 1 3 (by simp);have h2:=hf 2 3 (by simp);have h3:=hf 3 4 (by simp);have h4:=hf 4 3 (by simp);have h5:=hf 5 27 (by simp);have h6:=hf 6 28 (by simp);have h7:=hf 7 3 (by simp);clear hf
 match l,hl with
 |[a0,a1,a2,a3,a4,a5,a6,a7],_ =>
  obtain⟨ref,rfl,q0⟩:=gX h0;obtain⟨fl,rfl,q1⟩:=gX h1;obtain⟨fm,rfl,q2⟩:=gX h2;obtain⟨it,rfl⟩:=ug h3;obtain⟨qu,rfl,q4⟩:=gX h4;obtain⟨su,w5,q5,q5'⟩:=II (f+6) h5;obtain⟨rs,w6,q6,q6'⟩:=Jf f h6;obtain⟨z,rfl,q7⟩:=gX h7;refine⟨⟨ref,fl,fm,it,qu,su⟩,rs,z,⟨_,rfl⟩,⟨rfl,by simp[D.cells,D.one],fun i c d hc hd=>?_⟩,q0,q1,q2,q4,q7,q5,q5',q6,q6'⟩
  match i,hc,hd with
  |0,hc,hd|1,hc,hd|2,hc,hd|3,hc,hd|4,hc,hd|7,hc,hd=>cases hc;cases hd;exact bW.refl _
  |5,hc,hd=>cases hc;cases hd;exact w5
  |6,hc,hd=>cases hc;cases hd;exact w6
  |i+8,hc,hd=>simp[D.cells]at hc
end Sh
namespace Sh
open Go Bt Tc Co
attribute [local irreducible] aa ACalls
variable {gl:List (Nat×List D)}
def yn(c:Cel):Bool:=decide (c.e0.length≤100∧c.e1.length≤100∧c.e2.length≤100∧c.e3.length≤100∧c.e4.length≤100∧c.e5.length≤100)
def iV(r:Rw):Bool:=decide (r.cells.length≤200)&&r.cells.all yn
def gN(h:Hd)(rs:List Rw):Bool:=decide (rs.length≤30∧h.supp.length≤100)&&rs.all iV&&decide ((cellsOf rs).length≤200)
theorem BG{l:List Rw}{k:Nat}{r:Rw}(h:l[k]?=some r):(l.take (k+1)).all iV=((l.take k).all iV&&iV r):=by
 rw[List.take_add_one,h,List.all_append];simp
theorem GM{l:List Cel}{k:Nat}{c:Cel}(h:l[k]?=some c):(l.take (k+1)).all yn=((l.take k).all yn&&yn c):=by
 rw[pK h,List.all_append];simp
theorem zx:∀(l:List Rw),l.all iV=true→(cellsOf l).length≤200*l.length
 |[],_=>by simp[cellsOf]
 |r::l,h=>by
  rw[List.all_cons,Bool.and_eq_true]at h;have ih:=zx l h.2;have h1:=h.1;unfold iV at h1;rw[Bool.and_eq_true,decide_eq_true_eq]at h1;have e:cellsOf (r::l)=r.cells++cellsOf l:=rfl;rw[e,List.length_append,List.length_cons];omega
theorem CJ{h:Hd}{rs:List Rw}{k:Nat}{r:Rw}(hr:rs[k]?=some r)(hn:iV r=false):gN h rs=false:=by
 have:rs.all iV=false:=List.all_eq_false.2 ⟨r,List.mem_of_getElem? hr,by rw[hn];decide⟩;unfold gN;rw[this,Bool.and_false];rfl
theorem G6{r:Rw}{k:Nat}{c:Cel}(hc:r.cells[k]?=some c)(hn:yn c=false):iV r=false:=by
 have:r.cells.all yn=false:=List.all_eq_false.2 ⟨c,List.mem_of_getElem? hc,by rw[hn];decide⟩;unfold iV;rw[this,Bool.and_false]
attribute [local irreducible] bS suD bD rsD cellsOf
theorem yY(h:Hd)(rs:List Rw)(z:Int)(st:StI h rs z):ACalls (cxg gl) 31 [.d (shD h (rsD rs) z)] [] (fun r H=>r=B (gN h rs)∧H=[]):=by
 have hn:=ko rs;have hs:=oC h.supp;by_cases hA:rs.length≤30∧h.supp.length≤100
 ·have e00:(cellsOf (rs.take 0)).length=0:=by rw[List.take_zero];unfold cellsOf;rfl
  refine ACalls.en Tryz.func31 Tryz.ntmps31 ?_;repeat' (first|refine aa.aF ?_|refine aa.bh true ?_|refine aa.bC ?_|refine aa.ah ?_|refine aa.ae ?_|refine aa.aB ?_|refine aa.aM ?_|refine aa.au ?_|refine aa.bg ?_|refine aa.aC ?_|intro _|(apply aa.cZ ;rfl)|(apply aa.gD;rfl;rfl;rfl)|refine aa.aA ?_|refine aa.aP ?_|refine aa.kZ ?_|refine aa.aJ ?_)
  all_goals first|omega|skip
  refine aa.weak (env':=[(4,I ((0:Nat):Int)),(3,I (((cellsOf (rs.take 0)).length:Nat):Int)),(1, .ptr 0 0)]) ⟨rfl,by rw[e00];rfl,rfl,trivial⟩ ?_;refine aa.loop (fun m env H=>∃i:Nat,m=rs.length-i∧i≤rs.length∧(rs.take i).all iV=true∧env=[(4,I (i:Int)),(3,I (((cellsOf (rs.take i)).length:Nat):Int)),(1, .ptr 0 0)]∧H=[.cells (shA h (rsD rs) z)]) rs.length
   ⟨0,rfl,by omega,by simp,rfl,rfl⟩ ?_
  rintro m env H ⟨i,rfl,hi,hal,rfl,rfl⟩;rcases Nat.lt_or_ge i rs.length with hlt|hge
  ·obtain⟨r,hr⟩:∃r,rs[i]?=some r:=⟨_,List.getElem?_eq_getElem hlt⟩;have g1:=oH hr;have hX:=zx _ hal;have hXl:(rs.take i).length≤30:=by rw[List.length_take];omega
   have eX:=iz hr;have et:=BG hr;rw[hal,Bool.true_and]at et;have hm:=ig r.cells;by_cases hcl:r.cells.length≤200
   ·generalize hXX:cellsOf (rs.take i)=X at *;have c0:(X++r.cells.take 0).length=X.length:=by simp
    repeat' (first|refine aa.aF ?_|refine aa.o9 ?_|refine aa.q'd true ?_|refine aa.bC ?_|refine aa.ah ?_|refine aa.ae ?_|refine aa.aB ?_|refine aa.aM ?_|refine aa.au ?_|refine aa.bg ?_|refine aa.aC ?_|intro _|(apply aa.cZ ;rfl)|(apply aa.gD;rfl;rfl;rfl)|refine aa.aA ?_|refine aa.aP ?_|refine aa.kZ ?_|refine aa.aJ ?_)
    all_goals first|omega|skip
    refine aa.weak (env':=[(5,I ((0:Nat):Int)),(4,I (i:Int)),(3,I (((X++r.cells.take 0).length:Nat):Int)),(1, .ptr 0 0)]) ⟨rfl,rfl,by rw[c0];rfl,rfl,trivial⟩ ?_;refine aa.loop (fun m env H=>∃k:Nat,m=r.cells.length-k∧k≤r.cells.length∧(r.cells.take k).all yn=true∧env=[(5,I (k:Int)),(4,I (i:Int)),(3,I (((X++r.cells.take k).length:Nat):Int)),(1, .ptr 0 0)]∧H=[.cells (shA h (rsD rs) z)]) r.cells.length
     ⟨0,rfl,by omega,by simp,rfl,rfl⟩ ?_
    rintro m env H ⟨k,rfl,hk,hal2,rfl,rfl⟩;have hkl:(X++r.cells.take k).length=X.length+k:=by rw[List.length_append,List.length_take];omega
    rcases Nat.lt_or_ge k r.cells.length with hlt2|hge2
    ·obtain⟨c,hc⟩:∃c,r.cells[k]?=some c:=⟨_,List.getElem?_eq_getElem hlt2⟩;have g2:=kT hc;have et2:=GM hc;rw[hal2,Bool.true_and]at et2;have hkl2:(X++r.cells.take (k+1)).length=X.length+k+1:=by rw[List.length_append,List.length_take];omega
     have l0:=fS c.e0;have l1:=fS c.e1;have l2:=fS c.e2;have l3:=fS c.e3;have l4:=fS c.e4;have l5:=fS c.e5;cases hF:yn c with
     | true =>
      rw[hF]at et2;obtain⟨f0,f1,f2,f3,f4,f5⟩:=of_decide_eq_true hF;repeat' (first|refine aa.aF ?_|(apply aa.opx;(apply bR;(iterate 7 rfl);(first|omega|(rw[hn];omega)|(rw[hm];omega)|(exact⟨by omega,Nat.le_of_ble_eq_true rfl⟩));exact g1);rfl;rfl;rfl)|(apply aa.opx;(apply bR;(iterate 7 rfl);(first|omega|(rw[hn];omega)|(rw[hm];omega)|(exact⟨by omega,Nat.le_of_ble_eq_true rfl⟩));exact g2);rfl;rfl;rfl)|(apply aa.q true;rfl;rfl;rfl;rfl;first|exact True.intro|omega|(simp only[tn,Int.reduceToNat];omega)|(rw[hn];omega)|(rw[hm];omega)|(exact⟨by omega,Nat.le_of_ble_eq_true rfl⟩))|refine aa.bC ?_|refine aa.ah ?_|refine aa.ae ?_|refine aa.aB ?_|refine aa.aM ?_|refine aa.au ?_|refine aa.bg ?_|refine aa.aC ?_|apply aa.di|apply aa.lpU|intro _|(apply aa.cZ ;rfl)|(apply aa.gD;rfl;rfl;rfl)|refine aa.aA ?_|refine aa.aP ?_|refine aa.kZ ?_|refine aa.aJ ?_)
      all_goals first
       |exact aa.round [(5,I ((k+1:Nat):Int)),(4,I (i:Int)),(3,I (((X++r.cells.take (k+1)).length:Nat):Int)),(1, .ptr 0 0)] (r.cells.length-(k+1)) (by omega) ⟨rfl,rfl,congrArg I (by omega),rfl,trivial⟩ ⟨k+1,rfl,hlt2,et2,rfl,rfl⟩
       |omega
     |false =>
      have hno:=CJ (h:=h) hr (G6 hc hF);rw[hno];have hF':=of_decide_eq_false hF;repeat' (first|refine aa.aF ?_|(apply aa.opx;(apply bR;(iterate 7 rfl);(first|omega|(rw[hn];omega)|(rw[hm];omega)|(exact⟨by omega,Nat.le_of_ble_eq_true rfl⟩));exact g1);rfl;rfl;rfl)|(apply aa.opx;(apply bR;(iterate 7 rfl);(first|omega|(rw[hn];omega)|(rw[hm];omega)|(exact⟨by omega,Nat.le_of_ble_eq_true rfl⟩));exact g2);rfl;rfl;rfl)|(apply aa.q true;rfl;rfl;rfl;rfl;first|exact True.intro|omega|(simp only[tn,Int.reduceToNat];omega)|(rw[hn];omega)|(rw[hm];omega)|(exact⟨by omega,Nat.le_of_ble_eq_true rfl⟩))|refine aa.bC ?_|refine aa.ah ?_|refine aa.ae ?_|refine aa.aB ?_|refine aa.aM ?_|refine aa.au ?_|refine aa.bg ?_|refine aa.aC ?_|apply aa.di|apply aa.lpU|intro _|(apply aa.cZ ;rfl)|(apply aa.gD;rfl;rfl;rfl)|refine aa.aA ?_|refine aa.aP ?_|refine aa.kZ ?_|refine aa.aJ ?_)
      all_goals exact Tn
    ·obtain rfl:k=r.cells.length:=by omega
     rw[List.take_length]at hal2;have eRF:iV r=true:=by unfold iV;rw[hal2,decide_eq_true hcl];rfl
     rw[eRF]at et;rw[List.take_length,←eX];repeat' (first|refine aa.aF ?_|refine aa.o9 ?_|refine aa.q'd true ?_|refine aa.bC ?_|refine aa.ah ?_|refine aa.ae ?_|refine aa.aB ?_|refine aa.aM ?_|refine aa.au ?_|refine aa.bg ?_|refine aa.aC ?_|intro _|(apply aa.cZ ;rfl)|(apply aa.gD;rfl;rfl;rfl)|refine aa.aA ?_|refine aa.aP ?_|refine aa.kZ ?_|refine aa.aJ ?_)
     all_goals first
      |exact aa.round [(4,I ((i+1:Nat):Int)),(3,I (((cellsOf (rs.take (i+1))).length:Nat):Int)),(1, .ptr 0 0)] (rs.length-(i+1)) (by omega) ⟨rfl,rfl,rfl,trivial⟩ ⟨i+1,rfl,hlt,et,rfl,rfl⟩
      |omega
   ·have eRF:iV r=false:=by unfold iV;rw[decide_eq_false hcl];rfl
    rw[CJ (h:=h) hr eRF];repeat' (first|refine aa.aF ?_|refine aa.o9 ?_|refine aa.q'd true ?_|refine aa.bC ?_|refine aa.ah ?_|refine aa.ae ?_|refine aa.aB ?_|refine aa.aM ?_|refine aa.au ?_|refine aa.bg ?_|refine aa.aC ?_|intro _|(apply aa.cZ ;rfl)|(apply aa.gD;rfl;rfl;rfl)|refine aa.aA ?_|refine aa.aP ?_|refine aa.kZ ?_|refine aa.aJ ?_)
    all_goals first|exact⟨rfl,rfl⟩|omega|skip
  ·obtain rfl:i=rs.length:=by omega
   rw[List.take_length]at hal ⊢;have eL:gN h rs=decide ((cellsOf rs).length≤200):=by unfold gN;rw[hal,decide_eq_true hA];rfl
   rw[eL];repeat' (first|refine aa.aF ?_|refine aa.bh true ?_|refine aa.bC ?_|refine aa.ah ?_|refine aa.ae ?_|refine aa.aB ?_|refine aa.aM ?_|refine aa.au ?_|refine aa.bg ?_|refine aa.aC ?_|intro _|(apply aa.cZ ;rfl)|(apply aa.gD;rfl;rfl;rfl)|refine aa.aA ?_|refine aa.aP ?_|refine aa.kZ ?_|refine aa.aJ ?_)
   all_goals first|exact⟨congrArg B (by first|rfl|(apply decide_eq_decide.2;omega)),rfl⟩|omega
 ·have eL:gN h rs=false:=by unfold gN;rw[decide_eq_false hA];rfl
  rw[eL];refine ACalls.en Tryz.func31 Tryz.ntmps31 ?_;repeat' (first|refine aa.aF ?_|refine aa.bh true ?_|refine aa.bC ?_|refine aa.ah ?_|refine aa.ae ?_|refine aa.aB ?_|refine aa.aM ?_|refine aa.au ?_|refine aa.bg ?_|refine aa.aC ?_|intro _|(apply aa.cZ ;rfl)|(apply aa.gD;rfl;rfl;rfl)|refine aa.aA ?_|refine aa.aP ?_|refine aa.kZ ?_|refine aa.aJ ?_)
  all_goals exact Tn
end Sh
namespace Sh
open Go Bt Co
attribute [local irreducible] aa ACalls
variable {gl:List (Nat×List D)}
attribute [local irreducible] Tc.bS suD bD rsD dK bI bJ dC putRow ofV vD gJ nu Sh.bY nO zs cz dG dL dW mvs cellsOf fZ fW fR fL fH
end Sh
namespace Sh
open Go Bt Co Wr
attribute [local irreducible] aa ACalls
variable {gl:List (Nat×List D)}
theorem xJ{h:Hd}{rs:List Rw}{z:Int}(hc:dE h rs z=0):ib h rs z=true:=by
 unfold dE at hc;cases hf:ib h rs z with
 |true=>rfl
 |false=>rw[hf,if_neg (by decide)]at hc;cases hc
theorem kY{h:Hd}{rs:List Rw}{z:Int}{n:Nat}(hf:ib h rs z=true)(hz:z≤1000)(hc:(cellsOf rs).length≤200):iL (aS h rs z n) 2700000:=by
 obtain⟨hh,hz0,hR,ha⟩:=fM hf;have h1:=lU (n:=n) hh ha rs.length (Nat.le_refl _);have hRb:fR h.fmt≤18:=by unfold fR;split<;>(try split)<;>(try split)<;>(try split)<;>(try split)<;>(try split)<;>decide
 rw[List.take_length]at h1;have h2:=(h1.app (jI (bE (n+(dG h rs n rs.length).length)))).app (jI (8*z.toNat));have hp:=kx (n+(dG h rs n rs.length).length);exact⟨h2.1,by have:=h2.2;unfold aS;omega⟩
theorem oF(h:Hd)(rs:List Rw)(z:Int):(aS h rs z 0).length%8=0:=by
 unfold aS;have hp:=jK (0+(dG h rs 0 rs.length).length);have e:∀k,(zs k).length=k:=fun k=>by unfold zs;simp
 rw[List.length_append,List.length_append,e,e];omega
theorem Li{c:Cel}(h:LS c)(hf:yn c=true):kG c:=by
 obtain⟨h0,h1,h2,h3,h4,h5⟩:=of_decide_eq_true hf;exact⟨h.x,h.y,h.step,⟨by omega,h.e0.2⟩,⟨by omega,h.e1.2⟩,⟨by omega,h.e2.2⟩,⟨by omega,h.e3.2⟩,⟨by omega,h.e4.2⟩,⟨by omega,h.e5.2⟩⟩
theorem qg{h:Hd}{rs:List Rw}{z:Int}(st:StI h rs z)(hl:gN h rs=true):jX rs∧h.supp.length≤100∧(cellsOf rs).length≤200:=by
 unfold gN at hl;simp only[Bool.and_eq_true,decide_eq_true_eq]at hl;obtain⟨⟨⟨h1,h2⟩,h3⟩,h4⟩:=hl;refine⟨⟨by omega,fun r hr=>?_⟩,h2,h4⟩;have hf:=List.all_eq_true.1 h3 r hr;unfold iV at hf;simp only[Bool.and_eq_true,decide_eq_true_eq]at hf;exact⟨by omega,fun c hc=>Li ((st.rows r hr).cells c hc) (List.all_eq_true.1 hf.2 c hc)⟩
attribute [local irreducible] Tc.bS suD bD rsD dK bI bJ dC ib dE aS nu gN cellsOf
theorem yX(h:Hd)(rs:List Rw)(z:Int)(st:StI h rs z):ACalls (cxg gl) 20 [.d (shD h (rsD rs) z)] [] (fun r H=>r=B (gN h rs&&decide (z≤1000))∧H=[]):=by
 have lc:=yY (gl:=gl) h rs z st;cases hL:gN h rs;all_goals
  rw[hL]at lc;refine ACalls.en Tryz.func20 Tryz.ntmps20 ?_;repeat' (first|refine aa.aF ?_|refine aa.bh true ?_|refine aa.eP true ?_|refine aa.iU true ?_|refine aa.av (lc) ?_|refine aa.aR (lc) ?_|refine aa.cE ?_|refine aa.aV ?_|refine aa.bC ?_|refine aa.ah ?_|refine aa.ae ?_|refine aa.aB ?_|refine aa.ak ?_|refine aa.aH ?_|refine aa.aM ?_|refine aa.aD ?_|refine aa.bG ?_|refine aa.BV ?_|refine aa.au ?_|refine aa.bw ?_|refine aa.wL ?_|refine aa.cf ?_|refine aa.BR ?_|refine aa.OH ?_|refine aa.bg ?_|refine aa.BS ?_|refine aa.OI ?_|refine aa.aQ ?_|refine aa.bX ?_|refine aa.fI ?_|refine aa.Jq ?_|refine aa.I6 ?_|refine aa.eG ?_|refine aa.Jr ?_|refine aa.I7 ?_|refine aa.aC ?_|refine aa.iG ?_|refine aa.yD ?_|refine aa.aX ?_|apply aa.di|apply aa.lpU|intro _|(apply aa.cZ ;rfl)|((first|apply aa.gD|apply aa.qgD|apply aa.sgD);rfl;rfl;rfl)|((first|apply aa.gS|apply aa.qgS|apply aa.sgS);rfl;rfl;rfl)|(apply aa.kD;rfl)|refine aa.aA ?_|refine aa.aP ?_|refine aa.kZ ?_|refine aa.aJ ?_)
  all_goals exact Tp
theorem LD(h:Hd)(rs:List Rw)(z:Int)(ok:jX rs)(hl:h.supp.length≤100)(hc:dE h rs z=0)(hcl:(cellsOf rs).length≤200)(hz:z≤1000000):
  ACalls (cxg gA) 76 [.d (shD h (rsD rs) z)] [] (fun r H=>r = .cH [I ((aS h rs z 0).length:Int),I 0]∧H=[]):=by
 have nw:=rA (gl:=gA);have sp:=DU [] 0 h rs z ok hl hc (xJ hc) (iL.nil 0) rfl (by omega) hz;rw[List.nil_append]at sp;have ln:=um (gl:=gA) (aS h rs z 0);refine ACalls.en Tryz.func76 Tryz.ntmps76 ?_;repeat' (first|refine aa.aF ?_|refine aa.bh true ?_|refine aa.aj [] (nw) ?_|refine aa.aj [1,2] (sp) ?_|refine aa.aj [1,2] (ln) ?_|refine aa.aM ?_|intro _|refine aa.aA ?_)
 all_goals exact Tp
theorem Ov(h:Hd)(rs:List Rw)(z:Int)(ok:jX rs)(hl:h.supp.length≤100)(hc:dE h rs z≠0):
  ACalls (cxg gA) 76 [.d (shD h (rsD rs) z)] [] (fun r H=>r = .cH [I 0,I (dE h rs z)]∧H=[]):=by
 have nw:=rA (gl:=gA);have sp:=yh [] h rs z ok hl hc;have ln:=um (gl:=gA) [];refine ACalls.en Tryz.func76 Tryz.ntmps76 ?_;repeat' (first|refine aa.aF ?_|refine aa.bh true ?_|refine aa.aj [] (nw) ?_|refine aa.aj [1,2] (sp) ?_|refine aa.aj [1,2] (ln) ?_|refine aa.aM ?_|intro _|refine aa.aA ?_)
 all_goals exact Tp
def Lf:Cel:=⟨0,true,0,0,0,0,0,0,0,0,0,0,[],[],[],[],[],[]⟩
def rwL:Rw:=⟨false,0,0,[Lf,Lf]⟩
def hdL:Hd:=⟨0,0,6,true,5,[]⟩
def hd0:Hd:=⟨0,0,0,false,0,[]⟩
abbrev Le:D := .agg [In 0, .bool true,In 0,In 0,In 0,In 0,In 0,In 0,In 0,In 0,In 0,In 0, .aU, .aU, .aU, .aU, .aU, .aU]
abbrev Ps:D := .agg [.bool false,In 0,In 0, .sl 18 [Le,Le]]
abbrev Rb:D := .agg [In 0,In 0,In 6, .bool true,In 5, .aU, .sl 4 [Ps,Ps],In 0]
abbrev Ri:D := .agg [In 0,In 0,In 0, .bool false,In 0, .aU, .aU,In 0]
section
attribute [local semireducible] Tc.bS suD bD rsD
theorem QK:CW Le (kU Lf):=⟨rfl,by simp[D.cells,D.one],fun i c d hc hd=>by
 have hn:bW .aU (evS []):=bW.aU 3
 match i,hc,hd with
 |0,hc,hd|1,hc,hd|2,hc,hd|3,hc,hd|4,hc,hd|5,hc,hd|6,hc,hd|7,hc,hd|8,hc,hd|9,hc,hd|10,hc,hd|11,hc,hd=>cases hc;cases hd;exact bW.refl _
 |12,hc,hd|13,hc,hd|14,hc,hd|15,hc,hd|16,hc,hd|17,hc,hd=>cases hc;cases hd;exact hn
 |i+18,hc,hd=>simp[D.cells]at hc⟩
theorem Rm:CW Ps (rwD rwL):=⟨rfl,by simp[D.cells,D.one],fun i c d hc hd=>by
 match i,hc,hd with
 |0,hc,hd|1,hc,hd|2,hc,hd=>cases hc;cases hd;exact bW.refl _
 |3,hc,hd =>
  cases hc;cases hd;refine bW.sl rfl fun j e f he hf=>?_
  match j,he,hf with
  |0,he,hf|1,he,hf=>cases he;cases hf;exact QK
  |j+2,he,hf=>simp at he
 |i+4,hc,hd=>simp[D.cells]at hc⟩
theorem Ra:bW Rb (shD hdL (rsD [rwL,rwL]) 0):=CW.zo ⟨rfl,by simp[D.cells,D.one],fun i c d hc hd=>by
 match i,hc,hd with
 |0,hc,hd|1,hc,hd|2,hc,hd|3,hc,hd|4,hc,hd|7,hc,hd=>cases hc;cases hd;exact bW.refl _
 |5,hc,hd=>cases hc;cases hd;exact bW.aU 1
 |6,hc,hd =>
  cases hc;cases hd;refine bW.sl rfl fun j e f he hf=>?_
  match j,he,hf with
  |0,he,hf|1,he,hf=>cases he;cases hf;exact Rm
  |j+2,he,hf=>simp at he
 |i+8,hc,hd=>simp[D.cells]at hc⟩
theorem Rh:bW Ri (shD hd0 (rsD []) 0):=CW.zo ⟨rfl,by simp[D.cells,D.one],fun i c d hc hd=>by
 match i,hc,hd with
 |0,hc,hd|1,hc,hd|2,hc,hd|3,hc,hd|4,hc,hd|7,hc,hd=>cases hc;cases hd;exact bW.refl _
 |5,hc,hd=>cases hc;cases hd;exact bW.aU 1
 |6,hc,hd=>cases hc;cases hd;exact bW.aU 4
 |i+8,hc,hd=>simp[D.cells]at hc⟩
end
theorem N9:kG Lf:=by
 have h:qy []:=⟨by decide,by simp⟩;exact⟨gY,gY,gY,h,h,h,h,h,h⟩
theorem Jg:jX [rwL,rwL]:=⟨by decide,fun r hr=>by
 have:r=rwL:=by simpa using hr
 subst this;exact⟨by decide,fun c hc=>by
  have:c=Lf:=by simpa[rwL]using hc
  subst this;exact N9⟩⟩
theorem ME:jX []:=⟨by decide,by simp⟩
section
attribute [local semireducible] dE aS ib nu dK cellsOf
theorem QG:dE hdL [rwL,rwL] 0=0:=by decide +kernel
theorem La:dE hd0 [] 0=12:=by decide +kernel
theorem PP:(aS hdL [rwL,rwL] 0 0).length=56:=by decide +kernel
theorem RU:(cellsOf [rwL,rwL]).length=4:=by decide +kernel
end
theorem DR:ACalls (cxg gA) 22 [] [] (fun r H=>r=B true∧H=[]):=by
 have b1:=(LD hdL [rwL,rwL] 0 Jg (by decide) QG (by rw[RU];decide) (by decide)).weak (args:=[.d Rb]) ⟨cJ.d Ra,trivial⟩;rw[PP]at b1;have b2:=(Ov hd0 [] 0 ME (by decide) (by rw[La];decide)).weak (args:=[.d Ri]) ⟨cJ.d Rh,trivial⟩;rw[La]at b2;refine ACalls.en Tryz.func22 Tryz.ntmps22 ?_;repeat' (first|refine aa.aF ?_|refine aa.bh true ?_|refine aa.eP true ?_|refine aa.iU true ?_|refine aa.av (b1) ?_|refine aa.aR (b1) ?_|refine aa.av (b2) ?_|refine aa.aR (b2) ?_|refine aa.cE ?_|refine aa.aV ?_|refine aa.bC ?_|refine aa.ah ?_|refine aa.ae ?_|refine aa.aB ?_|refine aa.ak ?_|refine aa.aH ?_|refine aa.aM ?_|refine aa.aD ?_|refine aa.bG ?_|refine aa.BV ?_|refine aa.au ?_|refine aa.bw ?_|refine aa.wL ?_|refine aa.cf ?_|refine aa.BR ?_|refine aa.OH ?_|refine aa.bg ?_|refine aa.BS ?_|refine aa.OI ?_|refine aa.aQ ?_|refine aa.bX ?_|refine aa.fI ?_|refine aa.Jq ?_|refine aa.I6 ?_|refine aa.eG ?_|refine aa.Jr ?_|refine aa.I7 ?_|refine aa.aC ?_|refine aa.iG ?_|refine aa.yD ?_|refine aa.aX ?_|apply aa.di|apply aa.lpU|intro _|(apply aa.cZ ;rfl)|((first|apply aa.gD|apply aa.qgD|apply aa.sgD);rfl;rfl;rfl)|((first|apply aa.gS|apply aa.qgS|apply aa.sgS);rfl;rfl;rfl)|(apply aa.kD;rfl)|refine aa.aA ?_|refine aa.aP ?_|refine aa.kZ ?_|refine aa.aJ ?_)
 all_goals exact Tp
end Sh
end Go.Proofs.YtbpednchkndocaaGreatDoor.Av
