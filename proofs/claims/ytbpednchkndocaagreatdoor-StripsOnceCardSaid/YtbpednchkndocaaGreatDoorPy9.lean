/- Sheets that are read: the chapter's example; what is read may be. Sheets that are read are written as the bits that they were read from. -/
import Derived.Test.YtbpednchkndocaaGreatDoorPy8
import Derived.Test.YtbpednchkndocaaGreatDoorPy5
set_option linter.unusedVariables false
set_option linter.unusedSimpArgs false
set_option maxRecDepth 100000
set_option maxHeartbeats 64000000
namespace Go.Proofs.YtbpednchkndocaaGreatDoor.Av
namespace Si
open Go Bt Sh Co Ci Tc
attribute [local irreducible] aa ACalls aW aK bP aT cK cF cG
theorem Po{s:List UInt8}{p:Nat}(h:(shX s p).2.2.2.1≠0):shX s p=(hd0,[],0,(shX s p).2.2.2.1,p):=by
 unfold shX shH at h ⊢;by_cases h0:(hdT s p).2.1≠0
 ·rw[if_pos h0]
 ·rw[if_neg h0]at h ⊢;unfold shT at h ⊢;by_cases h1:(bhX (hdT s p).1 s (hdT s p).2.2).2.2.1≠0
  ·rw[if_pos h1]
  ·rw[if_neg h1]at h;exact absurd rfl h
theorem Pq{h:Hd}{rs:List Rw}{z:Int}(hf:ib h rs z=true)(hc:∀r∈rs,∀c∈r.cells,kG c):jX rs:=by
 obtain⟨h1,h2,h3,h4⟩:=fM hf;obtain⟨h5,_⟩:=lW hf;have hAL:=AY h5;refine⟨by omega,fun r hr=>⟨?_,hc r hr⟩⟩;obtain⟨i,hi⟩:=List.getElem?_of_mem hr;have:=wU (pQ h4 (aI hi) hi);omega
theorem Qc{h:Hd}{rs:List Rw}{z:Int}(hf:ib h rs z=true):h.supp.length≤8:=by
 obtain⟨h1,_⟩:=fM hf;exact (nV h1).1.2.2.2.2
attribute [local irreducible] shX Tc.bS suD bD rsD ib eH aS
end Si
namespace Si
open Go Bt Sh Co Ci Tc Wr
attribute [local irreducible] aa ACalls aW aK bP aT cK cF cG
theorem xO(s:List UInt8)(i:Nat)(h:i<s.length):bt s i=((s[i].toNat:Nat):Int):=by
 unfold bt;rw[List.getD_eq_getElem?_getD,List.getElem?_eq_getElem h];rfl
theorem GX{a b:List UInt8}(h:jw a=jw b):a=b:=by
 have hl:a.length=b.length:=by
  have h1:=nL a;have h2:=nL b;rw[h]at h1;omega
 apply List.ext_getElem hl;intro i h1 h2;have e:bU (bt a i) 8 8=bU (bt b i) 8 8:=by
  apply List.ext_getElem?;intro j;rcases Nat.lt_or_ge j 8 with hj|hj
  ·rw[←qF a i j h1 hj,←qF b i j h2 hj,h]
  ·rw[List.getElem?_eq_none (by rw[bV];omega),List.getElem?_eq_none (by rw[bV];omega)]
 have b1:=xO a i h1;have b2:=xO b i h2;have c1:=a[i].toNat_lt;have c2:=b[i].toNat_lt;have n1:=Rn.qK 8 (bt a i) (by rw[b1];omega) (by rw[b1];have:(2:Int)^8=256:=rfl;omega);have n2:=Rn.qK 8 (bt b i) (by rw[b2];omega) (by rw[b2];have:(2:Int)^8=256:=rfl;omega);rw[e]at n1;have:bt a i=bt b i:=n1.symm.trans n2;rw[b1,b2]at this;exact UInt8.toNat_inj.1 (by omega)
theorem QR(s:List UInt8)(j k i:Nat)(h:i<k-j):bt ((s.take k).drop j) i=bt s (j+i):=by
 unfold bt;rw[List.getD_eq_getElem?_getD,List.getD_eq_getElem?_getD,List.getElem?_drop,List.getElem?_take,if_pos (by omega)]
theorem LG(s:List UInt8)(j k q:Nat)(h:q<8*(k-j)):fq ((s.take k).drop j) (q:Int)=fq s ((8*j+q:Nat):Int):=by
 unfold fq;have e1:((q:Int)/8).toNat=q/8:=by omega
 have e2:(((8*j+q:Nat):Int)/8).toNat=j+q/8:=by omega
 have e3:((8*j+q:Nat):Int)%8=(q:Int)%8:=by omega
 rw[e1,e2,e3,QR s j k (q/8) (by omega)]
theorem Lm(s:List UInt8)(j k:Nat)(hjk:j≤k)(hk:k≤s.length):bJ (W s (8*j) (8*k))=(s.take k).drop j:=by
 have hd:(W s (8*j) (8*k)).all bB=true:=by
  unfold W;exact all_map _ (jf s _ _)
 have hl:=Dx (s:=s) (p:=8*j) (u:=8*k) (by omega) (by omega);apply GX;rw[wR _ hd,vO,hl];have hp:Bt.bE (8*k-8*j)=0:=by unfold Bt.bE;omega
 rw[hp];have hz:zs 0=[]:=rfl;rw[hz,List.append_nil];have hsl:((s.take k).drop j).length=k-j:=by rw[List.length_drop,List.length_take];omega
 apply List.ext_getElem?;intro q;rcases Nat.lt_or_ge q (8*(k-j))with hq|hq
 ·rw[I4 _ q (by rw[hsl];exact hq),LG s j k q hq];unfold W;rw[List.getElem?_map,List.getElem?_take,if_pos (by omega)];have:(aG s (8*j))[q]?=some (fq s ((8*j+q:Nat):Int)):=by
   unfold aG;rw[List.getElem?_map,List.getElem?_range (by omega)];rfl
  rw[this];rfl
 ·rw[List.getElem?_eq_none (by rw[hl];omega),List.getElem?_eq_none (by rw[nL,hsl];omega)]
attribute [local irreducible] shX Tc.bS suD bD rsD ib eH aS bJ W bI
end Si
namespace Si
open Go Bt Sh
def Ats(s:List UInt8)(p:Nat)(w:List UInt8):Prop:=p+w.length≤8*s.length∧W s p (p+w.length)=w
theorem Ats.app{s:List UInt8}{p:Nat}{a b:List UInt8}(h:Ats s p (a++b)):Ats s p a∧Ats s (p+a.length) b:=by
 obtain⟨h1,h2⟩:=h;rw[List.length_append]at h1 h2;have e:=mY (s:=s) (p:=p) (u:=p+a.length) (v:=p+(a.length+b.length)) (by omega) (by omega);rw[←e]at h2;have l1:=Dx (s:=s) (p:=p) (u:=p+a.length) (by omega) (by omega);obtain⟨e1,e2⟩:=List.append_inj h2 (by rw[l1];omega);exact⟨⟨by omega,e1⟩,⟨by omega,by rw[Nat.add_assoc];exact e2⟩⟩
theorem Ats.bits{s:List UInt8}{p:Nat}{w:List UInt8}(h:Ats s p w):(aG s p).take w.length=w.map und:=by
 have h2:=h.2;unfold W at h2;rw[Nat.add_sub_cancel_left]at h2;have:=Rn.FQ ((aG s p).take w.length) (jf s p w.length);rw[h2]at this;exact this.symm
theorem Ats.num{s:List UInt8}{p n:Nat}{v:Int}(h:Ats s p (bU v n n))(h0:0≤v)(h1:v<2^n):nB ((aG s p).take n)=v:=by
 have:=h.bits;rw[bV]at this;rw[this];exact Rn.qK n v h0 h1
theorem kw{s:List UInt8}{q n:Nat}{v:Int}{chk:Int→Int}(h:Ats s q (bU v n n))(h0:0≤v)(h1:v<2^n):ptX s n chk (0,q)=(v,chk v,q+n):=by
 have hl:=h.1;rw[bV]at hl;unfold ptX;rw[if_pos rfl,if_neg (by omega),h.num h0 h1]
theorem oW{s:List UInt8}{p:Nat}{n:Int}(h:Ats s p (gK n))(h0:0≤n∧n≤31):Mk.atB s p=(n,0):=by
 have e:=OQ ⟨n.toNat,by omega⟩;simp only at e;rw[show ((n.toNat:Nat):Int)=n by omega]at e;rw[←e]at h;have hl:=h.1;rw[bV]at hl;have hp:(2:Int)^22=4194304:=rfl;have hv:=h.num (by omega) (by omega);unfold Mk.atB;rw[if_neg (by omega),hv,if_pos (by omega)];congr 1;omega
theorem JM{s:List UInt8}{p:Nat}(h:Ats s p (gK 0))(h8:p%8=0):Mk.mkM s p=(0,p+22):=by
 have:=oW h (by decide);unfold Mk.mkM;rw[this];simp[h8]
theorem yB(v:Int):(iM v).length=9:=by rw[wM,List.length_append,bV];rfl
theorem Fa{s:List UInt8}:∀(m:List Int) (f:Nat) (l:List Int) (q:Nat),m.length<f→l.length+m.length≤8→m.all okB=true→Ats s q (m.flatMap iM++bU 0 1 1)→spX s f l (0,q)=(l++m,0,q+(m.flatMap iM++bU 0 1 1).length)
 |[],f+1,l,q,hf,hl,ho,h=>by
  have:=kw (chk:=ckN) (by simpa using h) (by decide) (by decide);simp only[spX];rw[this,if_neg (by simp)];simp[ckN,bV]
 |v::m,f+1,l,q,hf,hl,ho,h=>by
  rw[List.all_cons,Bool.and_eq_true]at ho;obtain⟨o1,o2⟩:=ho;have o1':0≤v∧v≤255:=of_decide_eq_true o1;rw[List.flatMap_cons,List.append_assoc]at h;obtain⟨h1,h2⟩:=h.app;rw[yB]at h2;rw[wM]at h1;obtain⟨h3,h4⟩:=h1.app;have e1:([49]:List UInt8)=bU 1 1 1:=by decide +kernel
  rw[e1]at h3;rw[show (([49]:List UInt8)).length=1 from rfl]at h4;have p1:=kw (chk:=ckN) h3 (by decide) (by decide);have p2:=kw (chk:=ckN) h4 o1'.1 (by have:(2:Int)^8=256:=rfl;omega);have ih:=Fa m f (l++[v]) (q+9) (by simpa using hf) (by rw[List.length_append,List.length_singleton];simp at hl;omega) o2 h2;have p2':ptX s 8 ckN ((1:Int),ckN 1,q+1).2=(v,0,q+1+8):=p2;have e:((v::m).flatMap iM++bU 0 1 1).length=9+(m.flatMap iM++bU 0 1 1).length:=by rw[List.flatMap_cons,List.append_assoc,List.length_append,yB]
  rw[spX,p1,if_pos ⟨rfl,rfl⟩,if_neg (by simp at hl;omega),p2'];show spX s f (l++[v]) (0,q+9)=_;rw[ih,e,←Nat.add_assoc];simp
theorem tK{s:List UInt8}{p:Nat}{h:Hd}(hh:nu h=true)(h8:p%8=0)(ha:Ats s p (Sh.bY h)):hdT s p=(h,0,p+(Sh.bY h).length):=by
 obtain⟨⟨f0,f1,f2,f3,f4⟩,fs⟩:=nV hh;have fs':h.supp.all okB=true:=by
  unfold nu at hh;rw[Bool.and_eq_true]at hh;exact hh.2
 have hfm:=qj f0;have hlen:(Sh.bY h).length=49+(h.supp.flatMap iM++bU 0 1 1).length:=by
  unfold Sh.bY Sh.fG;simp only[List.length_append,bV,lJ];omega
 rw[hlen];unfold Sh.bY Sh.fG at ha;simp only[List.append_assoc]at ha;obtain⟨a0,r0⟩:=ha.app;obtain⟨a1,r1⟩:=r0.app;obtain⟨a2,r2⟩:=r1.app;obtain⟨a3,r3⟩:=r2.app;obtain⟨a4,r4⟩:=r3.app;obtain⟨a5,r5⟩:=r4.app;obtain⟨a6,r6⟩:=r5.app;obtain⟨a7,r7⟩:=r6.app;obtain⟨a8,r8⟩:=r7.app;simp only[bV,lJ]at a1 a2 a3 a4 a5 a6 a7 a8 r8;have m0:=JM a0 h8;have hib:0≤iD h.inter∧iD h.inter<2^1:=by unfold iD;split<;>decide
 have k0:dz s p 0=(0,0,p+22):=by
  show ((0:Int),Mk.mkM s p)=_;rw[m0]
 have k1:dz s p 1=(h.ref,0,p+22+8):=by
  show ptX s 8 ckN (dz s p 0).2=_;rw[k0,kw a1 (by omega) (by have:(2:Int)^8=256:=rfl;omega)];rfl
 have k2:dz s p 2=(2,0,p+22+8+2):=by
  show ptX s 2 (ckU 2 5) (dz s p 1).2=_;rw[k1,kw a2 (by decide) (by decide)];rfl
 have k3:dz s p 3=(h.flags,0,p+22+8+2+3):=by
  show ptX s 3 ckN (dz s p 2).2=_;rw[k2,kw a3 (by omega) (by have:(2:Int)^3=8:=rfl;omega)];rfl
 have k4:dz s p 4=(h.fmt,0,p+22+8+2+3+3):=by
  show ptX s 3 ckF (dz s p 3).2=_;rw[k3,kw a4 (by omega) (by have:(2:Int)^3=8:=rfl;omega)];unfold ckF;rw[if_pos f0]
 have k5:dz s p 5=(iD h.inter,0,p+22+8+2+3+3+1):=by
  show ptX s 1 ckN (dz s p 4).2=_;rw[k4,kw a5 hib.1 hib.2];rfl
 have k6:dz s p 6=(0,0,p+22+8+2+3+3+1+4):=by
  show ptX s 4 (ckU 0 6) (dz s p 5).2=_;rw[k5,kw a6 (by decide) (by decide)];rfl
 have k7:dz s p 7=(h.quant,0,p+22+8+2+3+3+1+4+5):=by
  show ptX s 5 ckQ (dz s p 6).2=_;rw[k6,kw a7 (by omega) (by have:(2:Int)^5=32:=rfl;omega)];unfold ckQ;rw[if_neg (by omega)]
 have k8:dz s p 8=(0,0,p+22+8+2+3+3+1+4+5+1):=by
  show ptX s 1 (ckU 0 6) (dz s p 7).2=_;rw[k7,kw a8 (by decide) (by decide)];rfl
 have hs:=Fa h.supp 9 [] (p+22+8+2+3+3+1+4+5+1) (by omega) (by simpa using f4) fs' r8;have hR:hdR s p=(h,0,p+(49+(h.supp.flatMap iM++bU 0 1 1).length)):=by
  unfold hdR;rw[k1,k3,k4,k5,k7,k8];simp only;rw[hs];simp only[List.nil_append];have hi:decide (iD h.inter=1)=h.inter:=by cases h.inter<;>rfl
  rw[hi];congr 2;omega
 unfold hdT;rw[hR,if_pos rfl]
end Si
end Go.Proofs.YtbpednchkndocaaGreatDoor.Av
