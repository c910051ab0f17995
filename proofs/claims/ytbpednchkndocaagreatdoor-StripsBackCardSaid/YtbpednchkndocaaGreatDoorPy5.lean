/- Heads of sheets: the document's answer. A sheet that was read is told by its bits alone: heads; no program. A sheet that was read is told by its bits alone: rows, noughts; no program. -/
import Derived.Test.YtbpednchkndocaaGreatDoorPy4
import Derived.Test.YtbpednchkndocaaGreatDoorPs4
import Derived.Test.YtbpednchkndocaaGreatDoorPr2
set_option linter.unusedVariables false
set_option linter.unusedSimpArgs false
set_option maxRecDepth 100000
set_option maxHeartbeats 64000000
namespace Go.Proofs.YtbpednchkndocaaGreatDoor.Av
namespace Sh
open Go Bt Wr
attribute [local irreducible] aa ACalls
variable {gl:List (Nat×List D)}
theorem d2:bU 2 2 2=[49,48]:=by decide +kernel
theorem d4:bU 0 4 4=[48,48,48,48]:=by decide +kernel
theorem d1:bU 0 1 1=[48]:=by decide +kernel
theorem wM(v:Int):iM v=[49]++bU v 8 8:=rfl
attribute [local irreducible] suD iM bU gK zs
end Sh
namespace Si
open Go Bt Sh
def W(s:List UInt8)(p u:Nat):List UInt8:=((aG s p).take (u-p)).map cn
theorem LO(s:List UInt8)(p:Nat):W s p p=[]:=by unfold W;simp
theorem mY{s:List UInt8}{p u v:Nat}(h:p≤u)(h':u≤v):W s p u++W s u v=W s p v:=by
 unfold W;rw[←List.map_append];congr 1;rw[show v-p=(u-p)+(v-u) by omega,List.take_add,Mk.xS,show p+(u-p)=u by omega]
theorem Dw{s:List UInt8}{p n:Nat}(h:p+n≤8*s.length):bU (nB ((aG s p).take n)) n n=W s p (p+n):=by
 have:=Rn.vZ ((aG s p).take n) (jf s p n);rw[take_len s p n h]at this;rw[this];unfold W;rw[show p+n-p=n by omega]
theorem Dx{s:List UInt8}{p u:Nat}(h:p≤u)(h':u≤8*s.length):(W s p u).length=u-p:=by
 unfold W;rw[List.length_map];exact take_len s p (u-p) (by omega)
theorem kv{s:List UInt8}{n:Nat}{chk:Int→Int}{st:Int×Nat}(h:(ptX s n chk st).2.1=0):
  st.1=0∧(ptX s n chk st).2.2=st.2+n∧st.2+n≤8*s.length∧chk (ptX s n chk st).1=0∧(0≤(ptX s n chk st).1∧(ptX s n chk st).1<2^n)∧bU (ptX s n chk st).1 n n=W s st.2 (ptX s n chk st).2.2:=by
 unfold ptX at h ⊢;split at h
 ·rename_i h0;split at h
  ·cases h
  ·rename_i h1;rw[if_pos h0,if_neg h1];exact⟨h0,rfl,by omega,h,mR n _ (take_len s st.2 n (by omega)) (jf s st.2 n),Dw (by omega)⟩
 ·rename_i h0;exact absurd h h0
theorem OQ:∀k:_root_.Fin 32,bU (32+((k.val:Nat):Int)) 22 22=gK ((k.val:Nat):Int):=by decide +kernel
theorem Bj{s:List UInt8}{p:Nat}(h:(Mk.atB s p).2=0):p+22≤8*s.length∧(0≤(Mk.atB s p).1∧(Mk.atB s p).1≤31)∧gK (Mk.atB s p).1=W s p (p+22):=by
 have hb:=Mk.QV s p;have hle:=Mk.EJ s p h;refine⟨hle,⟨hb.1,hb.2.1⟩,?_⟩;rw[←Dw hle];unfold Mk.atB at h ⊢;rw[if_neg (by omega)]at h ⊢;split at h
 ·rename_i h1;rw[if_pos h1];generalize nB ((aG s p).take 22)=V at *;have:=OQ ⟨(V%32).toNat,by omega⟩;simp only at this;rw[show (((V%32).toNat:Nat):Int)=V%32 by omega,show 32+V%32=V by omega]at this;exact this.symm
 ·cases h
theorem JL{s:List UInt8}{p:Nat}(h:(Mk.mkM s p).1=0):p%8=0∧(Mk.mkM s p).2=p+22∧p+22≤8*s.length∧gK 0=W s p (p+22):=by
 unfold Mk.mkM at h ⊢;split at h
 ·rename_i h8;split at h
  ·rename_i h0;split at h
   ·rename_i h1;have:=Bj h0;rw[if_pos h8,if_pos h0,if_pos h1];rw[h1]at this;exact⟨h8,rfl,this.1,this.2.2⟩
   ·cases h
  ·rename_i h0;exact absurd h h0
 ·cases h
theorem E9{s:List UInt8}:∀(f:Nat) (l:List Int) (st:Int×Nat),f+l.length=9→l.length≤8→(spX s f l st).2.1=0 →
  st.1=0∧∃m:List Int,(spX s f l st).1=l++m∧(l++m).length≤8∧m.all okB=true∧st.2≤(spX s f l st).2.2∧m.flatMap iM++bU 0 1 1=W s st.2 (spX s f l st).2.2
 |0,l,st,h1,h2,_=>by omega
 | f + 1, l, st, h1, h2, h => by
  simp only[spX]at h ⊢;split at h
  ·rename_i hc;rw[if_pos hc];obtain⟨a1,a2,a3,a4,a5,a6⟩:=kv hc.2;split at h
   ·cases h
   ·rename_i h8;rw[if_neg h8];obtain⟨b0,m,b1,b2,b3,b4,b5⟩:=E9 f (l++[(ptX s 8 ckN (ptX s 1 ckN st).2).1]) (ptX s 8 ckN (ptX s 1 ckN st).2).2 (by rw[List.length_append,List.length_singleton];omega) (by rw[List.length_append,List.length_singleton];omega) h;obtain⟨c1,c2,c3,c4,c5,c6⟩:=kv b0;refine⟨a1,(ptX s 8 ckN (ptX s 1 ckN st).2).1::m,?_,?_,?_,?_,?_⟩
    ·rw[b1];simp
    ·simp only[List.length_append,List.length_cons,List.length_nil]at b2 ⊢;omega
    ·rw[List.all_cons,b3,Bool.and_true];unfold okB;exact decide_eq_true ⟨c5.1,by have:=c5.2;omega⟩
    ·omega
    ·rw[List.flatMap_cons,List.append_assoc,b5];have e1:iM (ptX s 8 ckN (ptX s 1 ckN st).2).1=W s st.2 (ptX s 8 ckN (ptX s 1 ckN st).2).2.2:=by
      have e49:([49]:List UInt8)=W s st.2 (ptX s 1 ckN st).2.2:=by
       rw[←a6,hc.1];decide +kernel
      rw[wM,c6,e49,mY (by omega) (by omega)]
     rw[e1,mY (by omega) (by omega)]
  ·rename_i hc;rw[if_neg hc];obtain⟨a1,a2,a3,a4,a5,a6⟩:=kv h;have hv:(ptX s 1 ckN st).1=0:=by
    have:¬(ptX s 1 ckN st).1=1:=fun e=>hc ⟨e,h⟩
    have:=a5.2;omega
   rw[hv]at a6;refine⟨a1,[],by simp,by simpa using h2,rfl,by simp only;omega,?_⟩;simpa using a6
theorem vW{s:List UInt8}{p:Nat}(h:(hdR s p).2.1=0):p%8=0∧nu (hdR s p).1=true∧p+22≤(hdR s p).2.2∧Sh.bY (hdR s p).1=W s p (hdR s p).2.2:=by
 unfold hdR at h ⊢;simp only at h ⊢;obtain⟨s0,m,s1,s2,s3,s4,s5⟩:=E9 9 [] (dz s p 8).2 rfl (by decide) h;obtain⟨a8,b8,c8,d8,e8,f8⟩:=kv (st:=(dz s p 7).2) s0;obtain⟨a7,b7,c7,d7,e7,f7⟩:=kv (st:=(dz s p 6).2) a8;obtain⟨a6,b6,c6,d6,e6,f6⟩:=kv (st:=(dz s p 5).2) a7;obtain⟨a5,b5,c5,d5,e5,f5⟩:=kv (st:=(dz s p 4).2) a6;obtain⟨a4,b4,c4,d4',e4,f4⟩:=kv (st:=(dz s p 3).2) a5;obtain⟨a3,b3,c3,d3,e3,f3⟩:=kv (st:=(dz s p 2).2) a4;obtain⟨a2,b2,c2,d2',e2,f2⟩:=kv (st:=(dz s p 1).2) a3;obtain⟨a1,b1,c1,d1',e1,f1⟩:=kv (st:=(dz s p 0).2) a2;obtain⟨g0,g1,g2,g3⟩:=JL (s:=s) (p:=p) a1;change (dz s p 0).2.2=p+22 at g1;rw[←g1]at g3;rw[List.nil_append]at s1 s2;rw[s1];change (dz s p 1).2.2=(dz s p 0).2.2+8 at b1;change (dz s p 2).2.2=(dz s p 1).2.2+2 at b2;change (dz s p 3).2.2=(dz s p 2).2.2+3 at b3;change (dz s p 4).2.2=(dz s p 3).2.2+3 at b4;change (dz s p 5).2.2=(dz s p 4).2.2+1 at b5;change (dz s p 6).2.2=(dz s p 5).2.2+4 at b6;change (dz s p 7).2.2=(dz s p 6).2.2+5 at b7;change (dz s p 8).2.2=(dz s p 7).2.2+1 at b8;change bU (dz s p 1).1 8 8=W s (dz s p 0).2.2 (dz s p 1).2.2 at f1;change bU (dz s p 2).1 2 2=W s (dz s p 1).2.2 (dz s p 2).2.2 at f2;change bU (dz s p 3).1 3 3=W s (dz s p 2).2.2 (dz s p 3).2.2 at f3;change bU (dz s p 4).1 3 3=W s (dz s p 3).2.2 (dz s p 4).2.2 at f4;change bU (dz s p 5).1 1 1=W s (dz s p 4).2.2 (dz s p 5).2.2 at f5;change bU (dz s p 6).1 4 4=W s (dz s p 5).2.2 (dz s p 6).2.2 at f6;change bU (dz s p 7).1 5 5=W s (dz s p 6).2.2 (dz s p 7).2.2 at f7;change bU (dz s p 8).1 1 1=W s (dz s p 7).2.2 (dz s p 8).2.2 at f8;change ckU 2 5 (dz s p 2).1=0 at d2';change ckF (dz s p 4).1=0 at d4';change ckU 0 6 (dz s p 6).1=0 at d6;change ckQ (dz s p 7).1=0 at d7;change ckU 0 6 (dz s p 8).1=0 at d8;change 0≤(dz s p 1).1∧(dz s p 1).1<2^8 at e1;change 0≤(dz s p 3).1∧(dz s p 3).1<2^3 at e3;change 0≤(dz s p 5).1∧(dz s p 5).1<2^1 at e5;change 0≤(dz s p 7).1∧(dz s p 7).1<2^5 at e7;generalize dz s p 1=x1 at *;generalize dz s p 2=x2 at *;generalize dz s p 3=x3 at *;generalize dz s p 4=x4 at *;generalize dz s p 5=x5 at *;generalize dz s p 6=x6 at *;generalize dz s p 7=x7 at *;generalize dz s p 8=x8 at *;generalize dz s p 0=x0 at *;generalize (spX s 9 [] x8.2).2.2=T at *;have u2:x2.1=2:=by unfold ckU at d2';split at d2';assumption;cases d2'
 have u6:x6.1=0:=by unfold ckU at d6;split at d6;assumption;cases d6
 have u8:x8.1=0:=by unfold ckU at d8;split at d8;assumption;cases d8
 have u7:x7.1≠0:=by unfold ckQ at d7;split at d7;cases d7;assumption
 have u4:fOk x4.1=true:=by unfold ckF at d4';split at d4';assumption;cases d4'
 have u5:iD (decide (x5.1=1))=x5.1:=by
  unfold iD;by_cases h1:x5.1=1
  ·rw[decide_eq_true h1,if_pos rfl,h1]
  ·rw[decide_eq_false h1,if_neg (by decide)];have:=e5.2;omega
 refine⟨g0,?_,by omega,?_⟩
 ·unfold nu;rw[Bool.and_eq_true];refine⟨decide_eq_true ⟨u4,⟨e1.1,?_⟩,⟨e3.1,?_⟩,⟨?_,?_⟩,s2⟩,s3⟩
  ·have:=e1.2;simp only;omega
  ·have:=e3.2;simp only;omega
  ·have:=e7.1;simp only;omega
  ·have:=e7.2;simp only;omega
 ·unfold Sh.bY Sh.fG;simp only;rw[u2]at f2;rw[u6]at f6;rw[u8]at f8;rw[List.append_assoc,s5,u5,g3,f1,f2,f3,f4,f5,f6,f7,f8];repeat rw[mY (by omega) (by omega)]
end Si
namespace Si
open Go Bt Tc Co Bl Ci Sh
theorem zJ:∀k:_root_.Fin 8,bU 0 k.val k.val=zs k.val:=by decide +kernel
theorem MP(n:Nat):Mk.bE n=Bt.bE n:=rfl
theorem Ce{s:List UInt8}{q:Nat}(hq:q≤8*s.length)(h:Mk.gQ s q=true):zs (Bt.bE q)=W s q (q+Mk.bE q):=by
 have hle:=Mk.kx s q hq;have h0:nB ((aG s q).take (Mk.bE q))=0:=by unfold Mk.gQ at h;simpa using h
 rw[←Dw hle,h0,←MP];have h8:Mk.bE q<8:=by unfold Mk.bE;omega
 exact (zJ ⟨Mk.bE q,h8⟩).symm
theorem rh7:∀k:_root_.Fin 128,bU ((k.val:Nat):Int) 7 7=bU (((k.val:Nat):Int)/32) 2 2++bU (((k.val:Nat):Int)%32) 5 5:=by decide +kernel
theorem Jk{s:List UInt8}{q i:Nat}(hq:q≤8*s.length)(h:(Mk.rhX s q i).2.2.1=0):
  (0≤(Mk.rhX s q i).1∧(Mk.rhX s q i).1≤3)∧(1≤(Mk.rhX s q i).2.1∧(Mk.rhX s q i).2.1≤31)∧q≤(Mk.rhX s q i).2.2.2∧zs (Bt.bE q)++nO i (Mk.rhX s q i).1 (Mk.rhX s q i).2.1=W s q (Mk.rhX s q i).2.2.2:=by
 unfold Mk.rhX at h ⊢;by_cases h0:(Mk.rhT s q i).2.2.1=0
 ·rw[if_pos h0];clear h;unfold Mk.rhT at h0 ⊢;by_cases h1:(Mk.nxB s q).2=true
  ·rw[if_pos h1]at h0 ⊢;by_cases h2:(Mk.nxB s q).1=i
   ·rw[if_pos h2]at h0 ⊢;by_cases h3:8*s.length<q+Mk.bE q+22+7
    ·rw[if_pos h3]at h0;cases h0
    ·rw[if_neg h3]at h0 ⊢;obtain⟨k1,k2⟩:=Mk.Al s q h1;have hp:=Ce hq k1;have hn:(Mk.nxB s q).1=(Mk.atB s (q+Mk.bE q)).1∧(Mk.atB s (q+Mk.bE q)).2=0:=by
      unfold Mk.nxB at h1 ⊢;rw[if_pos k1]at h1 ⊢;exact⟨rfl,by simpa using h1⟩
     have ha:=Bj hn.2;rw[←hn.1,h2]at ha;have h7:=Dw (s:=s) (p:=q+Mk.bE q+22) (n:=7) (by omega);have hb:=mR 7 _ (take_len s (q+Mk.bE q+22) 7 (by omega)) (jf s (q+Mk.bE q+22) 7);simp only at h0 ⊢;generalize nB ((aG s (q+Mk.bE q+22)).take 7)=V at *;have h32:V%32≠0:=by
      intro e;rw[if_pos e]at h0;cases h0
     have hb2:V<128:=by have:=hb.2;omega
     have:=rh7 ⟨V.toNat,by omega⟩;simp only at this;rw[show ((V.toNat:Nat):Int)=V by omega,h7]at this;refine⟨by omega,by omega,by omega,?_⟩;unfold nO;rw[←this,hp,ha.2.2,mY (by omega) (by omega),mY (by omega) (by omega)]
   ·rw[if_neg h2]at h0;cases h0
  ·rw[if_neg h1]at h0;cases h0
 ·rw[if_neg h0]at h;exact absurd h h0
theorem NA{s:List UInt8}{q i:Nat}{L F:Int}(hq:q≤8*s.length)(h:(hrX s q i L F).2.2.2.1=0)(cs:List Cel):
  ym i ⟨(hrX s q i L F).1,(hrX s q i L F).2.1,(hrX s q i L F).2.2.1,cs⟩=true∧q≤(hrX s q i L F).2.2.2.2.1∧(hrX s q i L F).2.2.2.2.2=(if (hrX s q i L F).1=true then i*L else F) ∧
  (∀out n,n+out.length=q→dL n i ⟨(hrX s q i L F).1,(hrX s q i L F).2.1,(hrX s q i L F).2.2.1,cs⟩ out=out++W s q (hrX s q i L F).2.2.2.2.1):=by
 unfold hrX at h ⊢;split at h
 ·rename_i hc;rw[if_pos hc];refine⟨by unfold ym;simp,Nat.le_refl _,by simp,fun out n hn=>?_⟩;unfold dL;simp only;rw[if_neg (by decide),LO,List.append_nil]
 ·rename_i hc;rw[if_neg hc];simp only at h ⊢;obtain⟨a1,a2,a3,a4⟩:=Jk hq h;refine⟨?_,a3,rfl,fun out n hn=>?_⟩
  ·unfold ym;simp only[if_true];exact decide_eq_true ⟨fun e=>hc (.inl e),a1,a2⟩
  ·unfold dL;simp only[if_true];rw[hn,a4]
theorem Fp{fm:Int}{b:Bool}{s:List UInt8}{A F:Int}:∀{n:Nat} {x:Rc},x.q≤8*s.length→(rcX fm b s A F n x).1.err=0 →
  x.err=0∧(rcX fm b s A F n x).2=true∧∃m:List Cel,(rcX fm b s A F n x).1.cs=x.cs++m∧m.length=n∧(rcX fm b s A F n x).1.vs=x.vs++mvs m∧x.q≤(rcX fm b s A F n x).1.q∧cz b A F x.vs m=W s x.q (rcX fm b s A F n x).1.q ∧
   (∀c∈m,dK b c=true∧kG c)∧∀(k:Nat) (c:Cel),m[k]?=some c→mK fm (x.vs.length+k) c=true
 |0,x,hq,h=>⟨h,rfl,[],by simp[rcX],rfl,by simp[rcX,mvs],Nat.le_refl _,by simp[rcX,cz,LO],by simp,by simp⟩
 | n + 1, x, hq, h => by
  unfold rcX at h ⊢;by_cases he:x.err≠0
  ·rw[if_pos he]at h;exact absurd h he
  ·rw[if_neg he]at h ⊢;have hcq:=Be b (ofV x.vs A F).1 (ofV x.vs A F).2 s x.q hq;have h01:=fJ s x.q;have co:=Rn.Lb b (ofV x.vs A F).1 (ofV x.vs A F).2 (aG s x.q) h01;have hq':(clX fm b s A F x).q≤8*s.length:=by unfold clX;rw[Gq];exact hcq
   obtain⟨a1,a2,m,a3,a4,a5,a6,a7,a8,a9⟩:=Fp (n:=n) hq' h;generalize rcX fm b s A F n (clX fm b s A F x)=y at *;unfold clX at a1 a3 a5 a6 a7 a9 hq';generalize hY:jb b (ofV x.vs A F).1 (ofV x.vs A F).2 (aG s x.q)=Y at *;rw[Bc]at a3;rw[Gq]at a6 a7;have ok:Y.2.1=0∧(aL Y.1.kind||rP fm x.vs.length (Y.1.mx,Y.1.my))=true∧(clT fm x Y).vs=x.vs++[(Y.1.mx,Y.1.my)]:=by
    unfold clT at a1 ⊢;by_cases e1:Y.2.1≠0
    ·rw[if_pos e1]at a1;exact absurd a1 e1
    ·rw[if_neg e1]at a1 ⊢;by_cases e2:(aL Y.1.kind||rP fm x.vs.length (Y.1.mx,Y.1.my))=true
     ·rw[if_pos e2];exact⟨by simpa using e1,e2,rfl⟩
     ·rw[if_neg e2]at a1;cases a1
   obtain⟨o1,o2,o3⟩:=ok;obtain⟨c1,c2,c3,c4⟩:=co o1;rw[o3]at a5 a7 a9;refine⟨by simpa using he,a2,Y.1::m,?_,?_,?_,?_,?_,?_,?_⟩
   ·rw[a3];simp
   ·rw[List.length_cons,a4]
   ·rw[a5];simp[mvs,mvP]
   ·omega
   ·have eW:fZ b A F x.vs Y.1=W s x.q (x.q+Y.2.2):=by
     unfold fZ W;rw[Nat.add_sub_cancel_left];exact c4.symm
    rw[cz,eW,←mY (u:=x.q+Y.2.2) (by omega) a6,←a7];rfl
   ·intro c hc;rcases List.mem_cons.1 hc with rfl|hc
    ·exact⟨c1,c2⟩
    ·exact a8 c hc
   ·intro k c hk;cases k with
    |zero =>
     simp only[List.getElem?_cons_zero,Option.some.injEq]at hk;subst hk;exact o2
    |succ k =>
     rw[List.getElem?_cons_succ]at hk;have:=a9 k c hk;rw[List.length_append,List.length_singleton]at this;rw[show x.vs.length+(k+1)=x.vs.length+1+k by omega];exact this
theorem AP{α:Type}{l:List α}{r:α}{k:Nat}(h:k<l.length):(l++[r])[k]?=l[k]?:=List.getElem?_append_left h
theorem rU(L:Int)(rs:List Rw)(r:Rw):∀k,k≤rs.length→dW L (rs++[r]) k=dW L rs k
 |0,_=>rfl
 |k+1,h=>by
  have ih:=rU L rs r k (by omega);unfold dW;rw[AP (by omega),ih]
theorem Cn(h:Hd)(rs:List Rw)(r:Rw)(n:Nat):∀k,k≤rs.length→dG h (rs++[r]) n k=dG h rs n k
 |0,_=>rfl
 |k+1,hk=>by
  have ih:=Cn h rs r n k (by omega);have hf:=rU (fL h.fmt) rs r (k+1) hk;unfold dG;rw[AP (by omega),ih,hf,List.take_append_of_le_length (by omega)]
theorem yG(h:Hd)(rs:List Rw)(r:Rw):∀k,k≤rs.length→gJ h (rs++[r]) k=gJ h rs k
 |0,_=>rfl
 |k+1,hk=>by
  have ih:=yG h rs r k (by omega);unfold gJ;rw[AP (by omega),ih]
theorem yz(f:Int)(l m:List Cel):∀k,k≤l.length→eH f (l++m) k=eH f l k
 |0,_=>rfl
 |k+1,hk=>by
  have ih:=yz f l m k (by omega);unfold eH;rw[List.getElem?_append_left (by omega),ih]
theorem yA{f:Int}{l m:List Cel}(h:eH f l l.length=true)(hm:∀(k:Nat) (c:Cel),m[k]?=some c→mK f (l.length+k) c=true):∀k,k≤m.length→eH f (l++m) (l.length+k)=true
 |0,_=>by rw[Nat.add_zero,yz f l m _ (Nat.le_refl _)];exact h
 |k+1,hk=>by
  have ih:=yA h hm k (by omega);obtain⟨c,hc⟩:∃c,m[k]?=some c:=⟨_,List.getElem?_eq_getElem (by omega)⟩;have hg:(l++m)[l.length+k]?=some c:=by rw[List.getElem?_append_right (by omega),Nat.add_sub_cancel_left];exact hc
  rw[←Nat.add_assoc,rD hg,ih,hm k c hc];rfl
structure StA(h:Hd)(s:List UInt8)(p i:Nat)(x:St):Prop where
 q:x.q≤8*s.length
 le:p≤x.q
 len:x.rows.length=i
 vs:x.vs=mvs (cellsOf x.rows)
 first:x.first=dW (fL h.fmt) x.rows i
 out:dG h x.rows 0 i=W s p x.q
 rows:gJ h x.rows i=true
 vecs:eH h.fmt (cellsOf x.rows) (cellsOf x.rows).length=true
 cels:∀r∈x.rows,∀c∈r.cells,kG c
theorem tZ(rs:List Rw)(r:Rw):cellsOf (rs++[r])=cellsOf rs++r.cells:=by simp[cellsOf]
theorem Mw{h:Hd}{s:List UInt8}{p i N:Nat}{x:St}(hN:(N:Int)=fA h.fmt*fL h.fmt)(h8:p%8=0)(hx:StA h s p i x)(he:(rwX h.fmt h.inter s (fA h.fmt) (fL h.fmt) N i x).2=0):
  StA h s p (i+1) (rwX h.fmt h.inter s (fA h.fmt) (fL h.fmt) N i x).1:=by
 obtain⟨x1,x2,x3,x4,x5,x6,x7,x8,x9⟩:=hx;have hr:=NA (s:=s) (q:=x.q) (i:=i) (L:=fL h.fmt) (F:=x.first) x1;have hle:=Es s x.q i (fL h.fmt) x.first x1;unfold rwX rwH at he ⊢;generalize hrX s x.q i (fL h.fmt) x.first=y at *;have r0:EN s p x.vs.length ⟨[],y.2.2.2.1,y.2.2.2.2.1,x.vs⟩:=⟨hle.1,by simp only;omega,by
  rw[x4];intro z hz;unfold mvs at hz;obtain⟨c,hc,rfl⟩:=List.mem_map.1 hz;unfold cellsOf at hc;obtain⟨r,hrr,hcr⟩:=List.mem_flatMap.1 hc;exact⟨(x9 r hrr c hcr).x,(x9 r hrr c hcr).y⟩,Nat.le_refl _⟩
 have r1:=(D5 (fm:=h.fmt) (b:=h.inter) (A:=fA h.fmt) (F:=y.2.2.2.2.2) (n:=N) r0).1;have ro:=Fp (fm:=h.fmt) (b:=h.inter) (s:=s) (A:=fA h.fmt) (F:=y.2.2.2.2.2) (n:=N) (x:=⟨[],y.2.2.2.1,y.2.2.2.2.1,x.vs⟩) hle.1;generalize rcX h.fmt h.inter s (fA h.fmt) y.2.2.2.2.2 N ⟨[],y.2.2.2.1,y.2.2.2.2.1,x.vs⟩=z at *;obtain⟨e1,e2,m,e3,e4,e5,e6,e7,e8,e9⟩:=ro he;simp only at e1 e3 e5 e6 e7 e9;obtain⟨g1,g2,g3,g4⟩:=hr e1 m;unfold rwT;rw[if_pos e2,e3,List.nil_append];simp only;generalize hrow:(⟨y.1,y.2.1,y.2.2.1,m⟩:Rw)=row at *;have hcells:row.cells=m:=by rw[←hrow]
 have hhead:row.head=y.1:=by rw[←hrow]
 have hget:(x.rows++[row])[i]?=some row:=by rw[←x3];simp
 have hF:y.2.2.2.2.2=dW (fL h.fmt) (x.rows++[row]) (i+1):=by
  rw[qi hget,rU _ _ _ _ (by omega),hhead,←x5];exact g3
 have hvl:x.vs.length=(cellsOf x.rows).length:=by rw[x4,vP]
 refine⟨r1.q,r1.p,?_,?_,?_,?_,?_,?_,?_⟩
 ·rw[List.length_append,List.length_singleton,x3]
 ·rw[e5,tZ,vQ,x4,hcells]
 ·exact hF
 ·rw[kN hget,Cn _ _ _ _ _ (by omega),x6,←hF,List.take_append_of_le_length (by omega),←x3,List.take_length,←x4,hcells,e7,x3];have hl:=Dx x2 x1;have hz:zs (Bt.bE (0+(W s p x.q).length))=zs (Bt.bE x.q):=by
   rw[hl];congr 1;unfold Bt.bE;omega
  have g5:dL 0 i row (W s p x.q)=W s p x.q++W s x.q y.2.2.2.2.1:=by
   have g6:=g4 (W s p x.q) p (by rw[hl];omega);rw[←g6];unfold dL;rw[hz,show p+(W s p x.q).length=x.q by rw[hl];omega]
  rw[g5,mY x2 (by omega),mY (by omega) e6]
 ·rw[oI hget,yG _ _ _ _ (by omega),x7,Bool.true_and];unfold pR;rw[hcells,e4,decide_eq_true hN,g1,Bool.true_and,Bool.true_and];exact List.all_eq_true.2 fun c hc=>(e8 c hc).1
 ·rw[tZ,hcells,List.length_append];refine yA x8 (fun k c hk=>?_) m.length (Nat.le_refl _);rw[←hvl];exact e9 k c hk
 ·intro r hrr c hcr;rcases List.mem_append.1 hrr with hrr|hrr
  ·exact x9 r hrr c hcr
  ·obtain rfl:=List.mem_singleton.1 hrr;rw[hcells]at hcr;exact (e8 c hcr).2
theorem Ff{h:Hd}{s:List UInt8}{p N:Nat}(hN:(N:Int)=fA h.fmt*fL h.fmt)(h8:p%8=0):∀{n i:Nat} {x:St},StA h s p i x→(rsX h.fmt h.inter s (fA h.fmt) (fL h.fmt) N n i x).2=0→StA h s p (i+n) (rsX h.fmt h.inter s (fA h.fmt) (fL h.fmt) N n i x).1
 |0,i,x,hx,_=>hx
 | n + 1, i, x, hx, he => by
  unfold rsX at he ⊢;by_cases h0:(rwX h.fmt h.inter s (fA h.fmt) (fL h.fmt) N i x).2≠0
  ·rw[if_pos h0]at he;exact absurd he h0
  ·rw[if_neg h0]at he ⊢;have:=Ff hN h8 (n:=n) (Mw hN h8 hx (by simpa using h0)) he;rw[show i+1+n=i+(n+1) by omega]at this;exact this
theorem LU{s:List UInt8}{q:Nat}(hq:q≤8*s.length):q+8*zrX s q≤8*s.length∧zs (8*zrX s q)=W s q (q+8*zrX s q):=by
 have hz:=rZ s q;have hle:8*zrX s q≤Mk.zer (aG s q):=by
  unfold zrX;split
  ·split<;>omega
  ·split<;>omega
 refine⟨by omega,?_⟩;have h0:=(nE (aG s q) (8*zrX s q) (fJ s q) (by rw[dN];omega)).2 hle;unfold W;rw[Nat.add_sub_cancel_left];have l:=take_len s q (8*zrX s q) (by omega);have h01:=jf s q (8*zrX s q);generalize 8*zrX s q=n at *;have e:(aG s q).take n=List.replicate n 0:=by
  refine Mk.JG n _ _ l (by simp) h01 (fun x hx => .inl (List.eq_of_mem_replicate hx)) ?_;rw[h0];have:∀n:Nat,nB (List.replicate n 0)=0:=fun n=>by
   induction n with
   |zero=>rfl
   |succ n ih=>rw[List.replicate_succ',kz,ih];rfl
  rw[this]
 rw[e];unfold zs;rw[List.map_replicate];rfl
theorem zS{s:List UInt8}{p:Nat}(hs:s.length≤262144)(hp:p≤8*s.length)(h:(shX s p).2.2.2.1=0):
  p%8=0∧p<(shX s p).2.2.2.2∧(shX s p).2.2.2.2≤8*s.length∧(shX s p).2.2.2.2%8=0∧ib (shX s p).1 (shX s p).2.1 (shX s p).2.2.1=true∧eH (shX s p).1.fmt (cellsOf (shX s p).2.1) (cellsOf (shX s p).2.1).length=true ∧
   (∀r∈(shX s p).2.1,∀c∈r.cells,kG c)∧aS (shX s p).1 (shX s p).2.1 (shX s p).2.2.1 0=W s p (shX s p).2.2.2.2:=by
 have hle:=Kk s p hp;unfold shX shH at h ⊢;by_cases h0:(hdT s p).2.1≠0
 ·rw[if_pos h0]at h;exact absurd h h0
 ·rw[if_neg h0]at h ⊢;have h0':(hdR s p).2.1=0:=by
   unfold hdT at h0;by_cases h1:(hdR s p).2.1=0
   ·exact h1
   ·rw[if_neg h1]at h0;exact absurd h1 h0
  have hT:hdT s p=hdR s p:=by unfold hdT;rw[if_pos h0']
  rw[hT]at h h0 hle ⊢;obtain⟨a1,a2,a3,a4⟩:=vW h0';generalize hdR s p=H at *;obtain⟨hd,e,q⟩:=H;simp only at h h0 h0' a2 a3 a4 hle ⊢;obtain⟨⟨b1,b2,b3,b4,b5⟩,b6⟩:=nV a2;have hf:fOk hd.fmt=true:=b1;have hP:=KG hd.fmt;have hR:0≤fR hd.fmt:=by
   have hb:=qj hf;have:hd.fmt=1∨hd.fmt=2∨hd.fmt=3∨hd.fmt=4∨hd.fmt=5∨hd.fmt=6:=by omega
   rcases this with e|e|e|e|e|e<;>rw[e]<;>decide
  unfold bhX at h ⊢;have st0:StA hd s p 0 ⟨[],[],0,q⟩:=⟨hle.1,hle.2,rfl,rfl,rfl,by
   show zs (Bt.bE 0)++Sh.bY hd=_;rw[a4];rfl,rfl,rfl,by simp⟩
  have so:=Ff (h:=hd) (s:=s) (p:=p) (N:=(fA hd.fmt*fL hd.fmt).toNat) (by omega) a1 (n:=(fR hd.fmt).toNat) st0;have so2:=(Je (fm:=hd.fmt) (b:=hd.inter) (A:=fA hd.fmt) (L:=fL hd.fmt) (p:=q) (N:=(fA hd.fmt*fL hd.fmt).toNat) (n:=(fR hd.fmt).toNat) (i:=0) (x:=⟨[],[],0,q⟩) ⟨hle.1,Nat.le_refl _,by simp[mZ],by simp,by simp⟩:EK s q _ _ _).p;generalize rsX hd.fmt hd.inter s (fA hd.fmt) (fL hd.fmt) (fA hd.fmt*fL hd.fmt).toNat (fR hd.fmt).toNat 0 ⟨[],[],0,q⟩=Y at *;obtain⟨x,er⟩:=Y;unfold bhT at h ⊢;simp only at h so ⊢;by_cases h1:er≠0
  ·rw[if_pos h1]at h;unfold shT at h;simp only at h;rw[if_pos h1]at h;exact absurd h h1
  ·rw[if_neg h1]at h ⊢;obtain⟨x1,x2,x3,x4,x5,x6,x7,x8,x9⟩:=so (by simpa using h1);rw[Nat.zero_add]at x3 x5 x6 x7;by_cases h2:Mk.gQ s x.q=true
   ·rw[if_pos h2];clear h;have hpo:=Ce x1 h2;have hpl:=Mk.kx s x.q x1;obtain⟨z1,z2⟩:=LU hpl;unfold shT;simp only[ne_eq,not_true_eq_false,if_false];have h8:(x.q+Mk.bE x.q)%8=0:=by unfold Mk.bE;omega
    have hql:q≤x.q:=so2;refine⟨a1,by omega,z1,by omega,?_,x8,x9,?_⟩
    ·unfold ib;rw[a2,Bool.true_and];rw[←x3]at x7;rw[x7,Bool.and_true,decide_eq_true (by omega),Bool.true_and];exact decide_eq_true (by omega)
    ·have hl:=Dx x2 x1;unfold aS;rw[x3,x6,hl,Int.toNat_natCast,z2];have hz:zs (Bt.bE (0+(x.q-p)))=zs (Bt.bE x.q):=by congr 1;unfold Bt.bE;omega
     rw[hz,hpo,mY x2 (by omega),mY (by omega) (by omega)]
   ·rw[if_neg h2]at h;simp only[shT]at h;cases h
end Si
end Go.Proofs.YtbpednchkndocaaGreatDoor.Av
