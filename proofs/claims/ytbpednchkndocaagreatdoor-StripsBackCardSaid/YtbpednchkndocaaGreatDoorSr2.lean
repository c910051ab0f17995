/- Strips: what is read may be and is the text of that strip alone; what is written is read again; no program. -/
import Derived.Test.YtbpednchkndocaaGreatDoorSr0
import Derived.Test.YtbpednchkndocaaGreatDoorPy9
set_option linter.unusedVariables false
set_option linter.unusedSimpArgs false
set_option maxRecDepth 100000
set_option maxHeartbeats 64000000
namespace Go.Proofs.YtbpednchkndocaaGreatDoor.Av
namespace Sr
open Go Bt Sh Co Ci Tc Si Wr
structure Gd(x:Sx):Prop where
 f:ib x.h x.rs x.z=true
 v:eH x.h.fmt (cellsOf x.rs) (cellsOf x.rs).length=true
theorem Gd.ck{x:Sx}(h:Gd x):dE x.h x.rs x.z=0:=by unfold dE;rw[if_pos h.f,if_pos h.v]
theorem R8{x:Sx}(h:dE x.h x.rs x.z=0):Gd x:=by
 unfold dE at h;cases hf:ib x.h x.rs x.z with
 |false=>rw[hf,if_neg (by decide)]at h;cases h
 |true =>
  cases hv:eH x.h.fmt (cellsOf x.rs) (cellsOf x.rs).length with
  |false=>rw[hf,hv,if_pos rfl,if_neg (by decide)]at h;cases h
  |true=>exact⟨hf,hv⟩
def Fol(l:List Sx):Prop:=∀i x,l[i]?=some x→nY (l.take i) x.h=true
def lI(x:Sx):List UInt8:=aS x.h x.rs x.z 0
def outs(l:List Sx):List UInt8:=l.flatMap lI
theorem xc(l m:List Sx):outs (l++m)=outs l++outs m:=by simp[outs]
theorem Jy(x:Sx):outs [x]=lI x:=by simp[outs]
theorem Ah:∀l:List Sx,(outs l).length%8=0
 |[]=>rfl
 |x::l=>by
  have h:=Ah l;have h2:=oF x.h x.rs x.z;have e:outs (x::l)=lI x++outs l:=rfl;rw[e,List.length_append];unfold lI;omega
def fO(l:List Sx)(e:Bool):List UInt8:=outs l++(if e=true then gK 31 else [])
theorem K6{l:List Sx}(hg:∀x∈l,Gd x)(hf:Fol l):∀n,n≤l.length→ckT l n=0
 |0,_=>rfl
 |n+1,h=>by
  have ih:=K6 hg hf n (by omega);have hx:l[l.length-(n+1)]?=some l[l.length-(n+1)]:=List.getElem?_eq_getElem (by omega);generalize l[l.length-(n+1)]=x at *;rw[ckT,hx];simp only;rw[(hg x (List.mem_of_getElem? hx)).ck,if_neg (by decide),if_pos (hf _ x hx),ih]
theorem K7{l:List Sx}(hg:∀x∈l,Gd x)(hf:Fol l)(h1:1≤l.length)(h2:l.length≤64):ckS l=0:=by
 unfold ckS;rw[if_neg (by omega),K6 hg hf _ (Nat.le_refl _)]
theorem Gr{l:List Sx}:∀n,n≤l.length→ckT l n=0→∀i x,l.length-n≤i→l[i]?=some x→Gd x∧nY (l.take i) x.h=true
 |0,_,_,i,x,hi,hx=>by have:=aI hx;omega
 | n + 1, h, hc, i, x, hi, hx => by
  have hy:l[l.length-(n+1)]?=some l[l.length-(n+1)]:=List.getElem?_eq_getElem (by omega);generalize l[l.length-(n+1)]=y at *;rw[ckT,hy]at hc;simp only at hc;by_cases h0:dE y.h y.rs y.z=0
  ·rw[h0,if_neg (by decide)]at hc;by_cases h1:nY (l.take (l.length-(n+1))) y.h=true
   ·rw[if_pos h1]at hc;rcases Nat.lt_or_ge (l.length-(n+1)) i with hlt|hge
    ·exact Gr n (by omega) hc i x (by omega) hx
    ·obtain rfl:i=l.length-(n+1):=by omega
     rw[hy]at hx;cases hx;exact⟨R8 h0,h1⟩
   ·rw[if_neg h1]at hc;cases hc
  ·rw[if_pos h0]at hc;exact absurd hc h0
theorem wh{l:List Sx}(h:ckS l=0):(1≤l.length∧l.length≤64)∧(∀x∈l,Gd x)∧Fol l:=by
 unfold ckS at h;split at h
 ·cases h
 ·have:=Gr l.length (Nat.le_refl _) h;refine⟨by omega,fun x hx=>?_,fun i x hx=>(this i x (by omega) hx).2⟩;obtain⟨i,hi⟩:=List.getElem?_of_mem hx;exact (this i x (by omega) hi).1
theorem NI{l:List Sx}{x:Sx}(hf:Fol l)(h:nY l x.h=true):Fol (l++[x]):=fun i y hy=>by
 rcases Nat.lt_or_ge i l.length with hlt|hge
 ·rw[List.getElem?_append_left hlt]at hy;rw[List.take_append_of_le_length (by omega)];exact hf i y hy
 ·have hi:=aI hy;rw[List.length_append,List.length_singleton]at hi;obtain rfl:i=l.length:=by omega
  rw[List.getElem?_append_right (by omega),Nat.sub_self]at hy;cases hy;rw[List.take_append_of_le_length (by omega),List.take_length];exact h
theorem NH{l m:List Sx}(hf:Fol (l++m)){x:Sx}{r:List Sx}(h:m=x::r):nY l x.h=true:=by
 have:=hf l.length x (by rw[h,List.getElem?_append_right (by omega),Nat.sub_self];rfl)
 rwa [List.take_append_of_le_length (by omega),List.take_length]at this
structure Rd1(s:List UInt8)(l:List Sx)(p:Nat):Prop where
 g:∀x∈l,Gd x∧∀r∈x.rs,∀c∈r.cells,kG c
 f:Fol l
 n:l.length≤64
 w:W s 0 p=outs l
 hp:p≤8*s.length
 hm:p%8=0
theorem Rd1.next{s:List UInt8}{l:List Sx}{p:Nat}(h:Rd1 s l p)(hs:s.length≤262144)(he:(Si.shX s p).2.2.2.1=0)(hl:l.length<64)(hf:nY l (Si.shX s p).1=true):
  Rd1 s (l++[⟨(Si.shX s p).1,(Si.shX s p).2.1,((Si.shX s p).2.2.1:Nat)⟩]) (Si.shX s p).2.2.2.2:=by
 obtain⟨o1,o2,o3,o4,o5,o6,o7,o8⟩:=zS hs h.hp he;generalize Si.shX s p=X at *;obtain⟨hd,rs,z,e,u⟩:=X;simp only at *;refine⟨fun x hx=>?_,NI h.f hf,by rw[List.length_append,List.length_singleton];omega,?_,o3,o4⟩
 ·rcases List.mem_append.1 hx with hx|hx
  ·exact h.g x hx
  ·obtain rfl:=List.mem_singleton.1 hx;exact⟨⟨o5,o6⟩,o7⟩
 ·rw[xc,Jy,←h.w];unfold lI;simp only;rw[o8];exact (mY (by omega) (by omega)).symm
theorem sO(w:List UInt8):dC (dC w)=dC w:=by
 have h8:(dC w).length%8=0:=by rw[dC,List.length_append,List.length_replicate];exact (jK _).1
 have:Bt.bE (dC w).length=0:=by unfold Bt.bE;omega
 show dC w++List.replicate (Bt.bE (dC w).length) 48=dC w;rw[this];simp
theorem FD(s:List UInt8):bJ (W s 0 (8*s.length))=s:=by
 have:=Lm s 0 s.length (by omega) (by omega);rw[Nat.mul_zero,List.take_length,List.drop_zero]at this;exact this
theorem PM{s:List UInt8}{l:List Sx}{p:Nat}(h:Rd1 s l p)(ha:Mk.atB s p=(31,0))(he:(prE s l p).err=0):prE s l p=⟨l,true,0,0⟩∧bJ (fO l true)=s:=by
 unfold prE at he ⊢;by_cases hc:p+24=8*s.length∧Mk.gQ s (p+22)=true
 ·rw[if_pos hc];refine⟨rfl,?_⟩;obtain⟨h1,h2,h3⟩:=Bj (s:=s) (p:=p) (by rw[ha]);rw[ha]at h3;simp only at h3;have hp2:Mk.bE (p+22)=2:=by unfold Mk.bE;have:=h.hm;omega
  have hk:=hc.2;unfold Mk.gQ at hk;rw[hp2]at hk;have hW2:W s (p+22) (p+24)=zs 2:=by
   have:=Dw (s:=s) (p:=p+22) (n:=2) (by omega);rw[show nB ((aG s (p+22)).take 2)=0 by simpa using hk]at this;rw[←this];rfl
  have e1:dC (fO l true)=W s 0 (8*s.length):=by
   unfold fO dC;rw[if_pos rfl,List.length_append,lJ];have hl:(outs l).length=p:=by rw[←h.w,Dx (by omega) h.hp];omega
   have e2:Bt.bE ((outs l).length+22)=2:=by rw[hl];unfold Bt.bE;have:=h.hm;omega
   rw[e2,←h.w,h3];have e3:List.replicate 2 48=W s (p+22) (p+24):=by rw[hW2];rfl
   rw[e3,mY (by omega) (by omega),mY (by omega) (by omega),hc.1]
  have e4:bJ (fO l true)=bJ (W s 0 (8*s.length)):=by
   rw[←e1];have e5:=sO (fO l true);unfold bJ;rw[e5]
  rw[e4,FD]
 ·rw[if_neg hc]at he;cases he
theorem B0{s:List UInt8}(hs:s.length≤262144):∀(n:Nat) (l:List Sx) (p:Nat),Rd1 s l p→(prX s n l p).err=0 →
  (∀x∈(prX s n l p).l,Gd x∧∀r∈x.rs,∀c∈r.cells,kG c)∧ckS (prX s n l p).l=0∧(prX s n l p).at_=0∧bJ (fO (prX s n l p).l (prX s n l p).e)=s
 |0,l,p,h,he=>by rw[prX]at he;cases he
 | n + 1, l, p, h, he => by
  rw[prX]at he ⊢;by_cases h1:p=8*s.length
  ·rw[if_pos h1]at he ⊢;by_cases h2:l.length=0
   ·rw[if_pos h2]at he;cases he
   ·rw[if_neg h2];refine⟨h.g,K7 (fun x hx=>(h.g x hx).1) h.f (Nat.pos_of_ne_zero h2) h.n,rfl,?_⟩;show bJ (fO l false)=s;have hw:=h.w;rw[h1]at hw;unfold fO;rw[if_neg (by decide),List.append_nil,←hw,FD]
  ·rw[if_neg h1]at he ⊢;by_cases h2:0<l.length∧Mk.atB s p=(31,0)
   ·rw[if_pos h2]at he ⊢;obtain⟨e1,e2⟩:=PM h h2.2 he;rw[e1];exact⟨h.g,K7 (fun x hx=>(h.g x hx).1) h.f h2.1 h.n,rfl,e2⟩
   ·rw[if_neg h2]at he ⊢;unfold prN at he ⊢;by_cases h3:(Si.shX s p).2.2.2.1≠0
    ·rw[if_pos h3]at he;exact absurd he h3
    ·rw[if_neg h3]at he ⊢;by_cases h4:64≤l.length
     ·rw[if_pos h4]at he;cases he
     ·rw[if_neg h4]at he ⊢;by_cases h5:nY l (Si.shX s p).1=true
      ·rw[if_pos h5]at he ⊢;exact B0 hs n _ _ (h.next hs (by simpa using h3) (by omega) h5) he
      ·rw[if_neg h5]at he;cases he
theorem Fv{s:List UInt8}:∀(n:Nat) (l:List Sx) (p:Nat),p≤8*s.length→s.length≤262144→(prX s n l p).err≠0→(prX s n l p).l=[]∧(prX s n l p).e=false∧(prX s n l p).at_≤s.length
 |0,l,p,hp,hs,he=>⟨rfl,rfl,by rw[prX];simp only;omega⟩
 | n + 1, l, p, hp, hs, he => by
  rw[prX]at he ⊢;by_cases h1:p=8*s.length
  ·rw[if_pos h1]at he ⊢;by_cases h2:l.length=0
   ·rw[if_pos h2];exact⟨rfl,rfl,by simp only;omega⟩
   ·rw[if_neg h2]at he;exact absurd rfl he
  ·rw[if_neg h1]at he ⊢;by_cases h2:0<l.length∧Mk.atB s p=(31,0)
   ·rw[if_pos h2]at he ⊢;unfold prE at he ⊢;split at he
    ·exact absurd rfl he
    ·rename_i h3;rw[if_neg h3];exact⟨rfl,rfl,by simp only;omega⟩
   ·rw[if_neg h2]at he ⊢;unfold prN at he ⊢;by_cases h3:(Si.shX s p).2.2.2.1≠0
    ·rw[if_pos h3];exact⟨rfl,rfl,by simp only;omega⟩
    ·rw[if_neg h3]at he ⊢;by_cases h4:64≤l.length
     ·rw[if_pos h4];exact⟨rfl,rfl,by simp only;omega⟩
     ·rw[if_neg h4]at he ⊢;by_cases h5:nY l (Si.shX s p).1=true
      ·rw[if_pos h5]at he ⊢;have:=zS (s:=s) (p:=p) hs hp (by simpa using h3);exact Fv n _ _ this.2.2.1 hs he
      ·rw[if_neg h5];exact⟨rfl,rfl,by simp only;omega⟩
theorem Ca{s:List UInt8}{e:Bool}:∀(m l:List Sx) (n p:Nat),(∀x∈m,Gd x)→Fol (l++m)→(l++m).length≤64→1≤(l++m).length→66≤n+l.length→p%8=0 →
  Ats s p (outs m++(if e=true then gK 31++zs 2 else []))→p+(outs m++(if e=true then gK 31++zs 2 else [])).length=8*s.length→prX s n l p=⟨l++m,e,0,0⟩
 |[],l,0,p,_,_,h64,_,hn,_,_,_=>by simp only[List.append_nil]at h64;omega
 |x::m,l,0,p,_,_,h64,_,hn,_,_,_=>by rw[List.length_append]at h64;omega
 | [], l, n + 1, p, hg, hf, h64, h1, hn, h8, ha, hp => by
  have e0:outs []=[]:=rfl;rw[e0,List.nil_append]at ha hp;rw[List.append_nil]at h64 h1 ⊢;rw[prX];cases e with
  |false =>
   rw[if_neg (by decide),List.length_nil]at hp;rw[if_pos (by omega),if_neg (by omega)]
  |true =>
   rw[if_pos rfl]at ha hp;obtain⟨a1,a2⟩:=ha.app;have at1:=oW a1 (by decide);rw[List.length_append,lJ]at hp;rw[lJ]at a2;have e2:(zs 2).length=2:=rfl;rw[e2]at hp;rw[if_neg (by omega),if_pos ⟨by omega,at1⟩];unfold prE;rw[if_pos];refine⟨by omega,?_⟩;have hp2:Mk.bE (p+22)=2:=by unfold Mk.bE;omega
   have ez:zs 2=bU 0 2 2:=rfl;rw[ez]at a2;have:=a2.num (by decide) (by decide);unfold Mk.gQ;rw[hp2,this];rfl
 | x :: m, l, n + 1, p, hg, hf, h64, h1, hn, h8, ha, hp => by
  have e0:outs (x::m)=lI x++outs m:=rfl;rw[e0,List.append_assoc]at ha hp;obtain⟨a1,a2⟩:=ha.app;have hx:=hg x List.mem_cons_self;obtain⟨t,ht⟩:=pM x.h x.rs x.z;have o8:=oF x.h x.rs x.z;unfold lI at a1 a2 hp;have a0:Mk.atB s p=(0,0):=by
   have:=a1;rw[ht]at this;exact oW this.app.1 (by decide)
  have ol:22≤(aS x.h x.rs x.z 0).length:=by rw[ht,List.length_append,lJ];omega
  have a1l:=a1.1;have hx2:p+(aS x.h x.rs x.z 0).length=8*s.length∨(Mk.atB s (p+(aS x.h x.rs x.z 0).length)).2=0:=by
   cases m with
   | nil =>
    have e1:outs []=[]:=rfl;rw[e1,List.nil_append]at a2 hp;cases e with
    |false=>rw[if_neg (by decide),List.append_nil]at hp;exact .inl hp
    |true =>
     rw[if_pos rfl]at a2;exact .inr (by rw[oW a2.app.1 (by decide)])
   |cons y m =>
    have e1:outs (y::m)=lI y++outs m:=rfl;rw[e1,List.append_assoc]at a2;have a3:=a2.app.1;obtain⟨t2,ht2⟩:=pM y.h y.rs y.z;unfold lI at a3;rw[ht2]at a3;exact .inr (by rw[oW a3.app.1 (by decide)])
  have sb:=zT h8 hx.f hx.v a1 hx2;rw[prX,if_neg (by omega),if_neg (fun h=>by rw[a0]at h;exact absurd (congrArg Prod.fst h.2) (by decide)),sb];unfold prN;simp only;have hz:((x.z.toNat:Nat):Int)=x.z:=by have:=(fM hx.f).2.1;omega
  rw[if_neg (by decide),if_neg (by rw[List.length_append,List.length_cons]at h64;omega),if_pos (NH hf rfl),hz];have ih:=Ca m (l++[⟨x.h,x.rs,x.z⟩]) n (p+(aS x.h x.rs x.z 0).length) (fun y hy=>hg y (List.mem_cons_of_mem _ hy)) (by rw[List.append_assoc];exact hf) (by rw[List.append_assoc];exact h64) (by rw[List.append_assoc];exact h1)
   (by rw[List.length_append,List.length_singleton];omega) (by omega) a2 (by rw[List.length_append]at hp;omega)
  rw[ih,List.append_assoc];rfl
theorem IP{l:List Sx}{e:Bool}(h:∀x∈l,(lI x).all bB=true):(fO l e).all bB=true:=by
 unfold fO;rw[List.all_append,Bool.and_eq_true];refine⟨?_,by cases e<;>first|rfl|exact Aw 31⟩;unfold outs;rw[List.all_flatMap];exact List.all_eq_true.2 h
theorem BI{l:List Sx}{e:Bool}(hc:ckS l=0)(hd:∀x∈l,(lI x).all bB=true):prS (bJ (fO l e))=⟨l,e,0,0⟩:=by
 obtain⟨h1,hg,hf⟩:=wh hc;have h8:=Ah l;have hp:dC (fO l e)=outs l++(if e=true then gK 31++zs 2 else []):=by
  unfold dC fO;cases e with
  |false =>
   rw[if_neg (by decide),if_neg (by decide),List.append_nil];have:Bt.bE (outs l).length=0:=by unfold Bt.bE;omega
   rw[this];simp
  |true =>
   rw[if_pos rfl,if_pos rfl,List.length_append,lJ];have:Bt.bE ((outs l).length+22)=2:=by unfold Bt.bE;omega
   rw[this,List.append_assoc];rfl
 have e5:bJ (fO l e)=bJ (dC (fO l e)):=by
  have e5:=sO (fO l e);unfold bJ;rw[e5]
 have hpd:(dC (fO l e)).all bB=true:=by
  unfold dC;rw[List.all_append,IP hd,Bool.true_and];exact (jI _).1
 have at0:=Dm [] (dC (fO l e)) hpd;have hlen:8*(bJ (fO l e)).length=(dC (fO l e)).length:=by
  rw[dY,dC,List.length_append,List.length_replicate];have:=jK (fO l e).length;omega
 rw[List.nil_append,←e5,List.length_nil,hp]at at0;rw[hp]at hlen;exact Ca l [] 66 0 hg (by rw[List.nil_append];exact hf) (by rw[List.nil_append];omega) (by rw[List.nil_append];omega) (by omega) rfl at0 (by omega)
end Sr
end Go.Proofs.YtbpednchkndocaaGreatDoor.Av
