/- A sheet's digits are read as the sheet: cells, rows, noughts; no program. -/
import Derived.Test.YtbpednchkndocaaGreatDoorPy9
set_option linter.unusedVariables false
set_option linter.unusedSimpArgs false
set_option maxRecDepth 100000
set_option maxHeartbeats 64000000
namespace Go.Proofs.YtbpednchkndocaaGreatDoor.Av
namespace Si
open Go Bt Tc Co Bl Ci Sh Mb
def uW(w:List UInt8):Prop:=∃k,k<15∧w[k]?=some 49
theorem uW.app{a b:List UInt8}(h:uW a):uW (a++b):=by
 obtain⟨k,h1,h2⟩:=h;exact⟨k,h1,by rw[List.getElem?_append_left (aI h2)];exact h2⟩
theorem uW.Su{a:List UInt8}(h:∃k,k<14∧a[k]?=some 49):uW (48::a):=by
 obtain⟨k,h1,h2⟩:=h;exact⟨k+1,by omega,by rw[List.getElem?_cons_succ];exact h2⟩
def FG(w:List UInt8):Bool:=(List.range 14).any fun k=>w[k]?==some 49
theorem Cr{w:List UInt8}(h:FG w=true):∃k,k<14∧w[k]?=some 49:=by
 unfold FG at h;rw[List.any_eq_true]at h;obtain⟨k,h1,h2⟩:=h;exact⟨k,by simpa using h1,by simpa using h2⟩
theorem FO:∀b:Bool,∀k:_root_.Fin 6,∀c:_root_.Fin 4,lu b k.val c.val=true→FG (eD b k.val c.val)=true:=by decide +kernel
theorem H2{b:Bool}{c:Cel}(px py:Int)(h:dK b c=true):uW (putRow [] b px py c):=by
 obtain⟨hst,hc⟩:=qG h;have key:∀w,FG w=true→uW (again b++w):=fun w hw=>by
  cases b with
  |true=>exact uW.Su (Cr hw)
  |false =>
   obtain⟨k,h1,h2⟩:=Cr hw;exact⟨k,by omega,h2⟩
 have hr:uW (Co.bY b c):=by
  unfold Co.bY;rcases Nat.eq_zero_or_pos c.stuff.toNat with h0|h0
  ·rw[h0];simp only[List.replicate_zero,List.flatten_nil,List.nil_append];unfold jJ;rcases hc with hs|⟨hs,h1,_⟩
   ·rw[if_pos hs];exact⟨0,by decide,rfl⟩
   ·rw[if_neg (by rw[hs];decide)];have hm:=qc h1;have hb:=xq h1;have hcb:=kS c;rw[qR]at hm ⊢;have:=FO b ⟨c.kind.toNat,by omega⟩ ⟨(cN c%4).toNat,by omega⟩;simp only at this;rw[show ((c.kind.toNat:Nat):Int)=c.kind by omega,show (((cN c%4).toNat:Nat):Int)=cN c%4 by omega]at this;exact key _ (this hm)
  ·obtain⟨m,hm⟩:∃m,c.stuff.toNat=m+1:=⟨c.stuff.toNat-1,by omega⟩;rw[hm,List.replicate_succ,List.flatten_cons,List.append_assoc];refine uW.app ?_;unfold cA;exact key _ (FO b 5 0 (tj b))
 rcases hc with hs|⟨hs,_⟩
 ·have hp:putRow [] b px py c=Co.bY b c:=by unfold putRow;rw[if_pos hs];rfl
  rw[hp];exact hr
 ·rw[Rn.put_eq b px py c hs];exact hr.app
theorem Ib:∀(l:List Int) (k:Nat),l[k]?=some 1→Mk.zer l≤k
 |[],k,h=>by simp at h
 |b::l,0,h=>by
  simp only[List.getElem?_cons_zero,Option.some.injEq]at h;rw[h,Mk.zer,if_neg (by decide)];exact Nat.le_refl _
 |b::l,k+1,h=>by
  rw[List.getElem?_cons_succ]at h;have:=Ib l k h;rw[Mk.zer];split<;>omega
theorem MX{s:List UInt8}{q:Nat}{w:List UInt8}(ho:uW w)(h:Ats s q w):(Mk.nxB s q).2=false:=by
 obtain⟨k,h1,h2⟩:=ho;have hb:=h.bits;have hl:=h.1;have hk:(aG s q)[k]?=some 1:=by
  have e:((aG s q).take w.length)[k]?=some 1:=by
   rw[hb,List.getElem?_map,h2];rfl
  rw[List.getElem?_take]at e;split at e
  ·exact e
  ·cases e
 have hz:=Ib _ _ hk;cases hn:(Mk.nxB s q).2 with
 |false=>rfl
 | true =>
  exfalso;obtain⟨k1,k2⟩:=Mk.Al s q hn;have hp:Mk.bE q≤Mk.zer (aG s q):=(nE (aG s q) (Mk.bE q) (fJ s q) (by rw[dN];omega)).1 (by unfold Mk.gQ at k1;simpa using k1);have ha:(Mk.atB s (q+Mk.bE q)).2=0:=by
   unfold Mk.nxB at hn;rw[if_pos k1]at hn;simpa using hn
  have:=((Bi s (q+Mk.bE q)).1 ha).2;rw[qz s q _ hp]at this;omega
theorem Fq{fm:Int}{b:Bool}{s:List UInt8}{A F:Int}:∀(m:List Cel) (cs:List Cel) (q:Nat) (vs:List (Int×Int)),Ats s q (cz b A F vs m)→(∀c∈m,dK b c=true)→(∀(k:Nat) (c:Cel),m[k]?=some c→mK fm (vs.length+k) c=true) →
  rcX fm b s A F m.length ⟨cs,0,q,vs⟩=(⟨cs++m,0,q+(cz b A F vs m).length,vs++mvs m⟩,true)
 |[],cs,q,vs,_,_,_=>by simp[rcX,cz,mvs]
 | c :: m, cs, q, vs, h, hr, hv => by
  rw[cz]at h;obtain⟨h1,h2⟩:=h.app;have hb:=h1.bits;have hl:=h1.1;have hrc:=hr c List.mem_cons_self;have e:aG s q=(fZ b A F vs c).map und++(aG s q).drop (fZ b A F vs c).length:=by rw[←hb,List.take_append_drop]
  have cb:=Rn.Lc b (ofV vs A F).1 (ofV vs A F).2 c ((aG s q).drop (fZ b A F vs c).length) (fun x hx=>fJ s q x (List.mem_of_mem_drop hx)) hrc;change jb b (ofV vs A F).1 (ofV vs A F).2 ((fZ b A F vs c).map und++(aG s q).drop (fZ b A F vs c).length)=(c,0,(fZ b A F vs c).length)at cb;rw[←e]at cb
  have ih:=Fq (fm:=fm) m (cs++[c]) (q+(fZ b A F vs c).length) (vs++[mvP c]) h2 (fun x hx=>hr x (List.mem_cons_of_mem _ hx)) (fun k x hk=>by
   rw[List.length_append,List.length_singleton,Nat.add_assoc,Nat.add_comm 1 k]
   exact hv (k+1) x (by rw[List.getElem?_cons_succ];exact hk))
  have h0:=hv 0 c rfl;rw[Nat.add_zero]at h0;rw[List.length_cons,rcX,if_neg (by simp)];have ec:clX fm b s A F ⟨cs,0,q,vs⟩=⟨cs++[c],0,q+(fZ b A F vs c).length,vs++[mvP c]⟩:=by
   unfold clX;simp only;rw[cb];unfold clT;simp only[ne_eq,not_true_eq_false,if_false];have h0':(aL c.kind||rP fm vs.length (c.mx,c.my))=true:=h0;rw[if_pos h0'];rfl
  rw[ec,ih,cz,List.length_append];simp[mvs,Nat.add_assoc]
theorem NB{s:List UInt8}{q i n:Nat}{L F:Int}{r:Rw}{out rest:List UInt8}(hq:(n+out.length)%8=q%8)(hh:ym i r=true)(hi:i≤30)(ho:uW rest)(h:∀pre,dL n i r out=out++pre→Ats s q (pre++rest)):
  ∃pre,dL n i r out=out++pre∧hrX s q i L F=(r.head,r.id,r.quant,0,q+pre.length,if r.head=true then i*L else F):=by
 unfold dL at h ⊢;cases hd:r.head with
 |false =>
  rw[hd]at h;simp only[Bool.false_eq_true,if_false]at h ⊢;refine⟨[],by simp,?_⟩;have h1:=h [] (by simp);have nm:=MX ho (by simpa using h1);unfold ym at hh;rw[if_neg (by rw[hd];decide)]at hh;have hh':r.id=0∧r.quant=0:=of_decide_eq_true hh;unfold hrX;rw[if_pos (.inr (.inl nm)),hh'.1,hh'.2];rfl
 | true =>
  rw[hd]at h;simp only[if_true]at h ⊢;refine⟨_,rfl,?_⟩;obtain⟨h1,_⟩:=(h _ rfl).app;unfold ym at hh;rw[if_pos hd]at hh;have hh':i≠0∧(0≤r.id∧r.id≤3)∧(1≤r.quant∧r.quant≤31):=of_decide_eq_true hh;have hpad:Bt.bE (n+out.length)=Mk.bE q:=by unfold Bt.bE Mk.bE;omega
  rw[hpad]at h1 ⊢;obtain⟨h2,h3⟩:=h1.app;have hz:∀k,(zs k).length=k:=fun k=>by unfold zs;simp
  rw[hz]at h3;have hk:Mk.gQ s q=true:=by
   have hb:=h2.bits;rw[hz]at hb;have h8:Mk.bE q<8:=by unfold Mk.bE;omega
   have e0:=zJ ⟨Mk.bE q,h8⟩;simp only at e0;rw[←e0]at h2;have:=h2.num (by decide) (Int.pow_pos (by decide));unfold Mk.gQ;rw[this];rfl
  unfold nO at h3;obtain⟨h4,h5⟩:=h3.app;rw[lJ]at h5;have ha:=oW h4 (by omega);have hn:Mk.nxB s q=((i:Int),true):=by
   unfold Mk.nxB;rw[if_pos hk,ha];rfl
  have h7:∃v:_root_.Fin 128,((v.val:Nat):Int)=32*r.id+r.quant:=⟨⟨(32*r.id+r.quant).toNat,by omega⟩,by simp only;omega⟩;obtain⟨v,hv⟩:=h7;have e7:=rh7 v;rw[hv]at e7;rw[show (32*r.id+r.quant)/32=r.id by omega,show (32*r.id+r.quant)%32=r.quant by omega]at e7;rw[←e7]at h5;have hl5:=h5.1;rw[bV]at hl5;have hnum:=h5.num (by omega) (by have:(2:Int)^7=128:=rfl;omega);have hX:Mk.rhX s q i=(r.id,r.quant,0,q+Mk.bE q+22+7):=by
   have hT:Mk.rhT s q i=(r.id,r.quant,0,q+Mk.bE q+22+7):=by
    unfold Mk.rhT;rw[hn];simp only[if_true];rw[if_neg (by omega),hnum,show (32*r.id+r.quant)/32=r.id by omega,show (32*r.id+r.quant)%32=r.quant by omega,if_neg (by omega)]
   unfold Mk.rhX;rw[hT];simp
  unfold hrX;have hno:¬(i=0∨((i:Int),true).2=false∨((i:Int),true).1=0∨((i:Int),true).1=31):=by
   rintro (h|h|h|h)
   ·exact hh'.1 h
   ·cases h
   ·have h':(i:Int)=0:=h;exact hh'.1 (by omega)
   ·have h':(i:Int)=31:=h;omega
  rw[hn,if_neg hno,hX];simp only[List.length_append,hz];have hrl:(nO (i:Int) r.id r.quant).length=22+7:=by unfold nO;simp only[List.length_append,lJ,bV]
  rw[hrl];congr 5
end Si
namespace Si
open Go Bt Tc Co Bl Ci Sh
theorem Dz(n:Nat):(zs n).length=n:=by unfold zs;simp
theorem M3(n:Nat):nB (List.replicate n 0)=0:=by
 induction n with
 |zero=>rfl
 |succ n ih=>rw[List.replicate_succ',kz,ih];rfl
theorem LV{s:List UInt8}{q z:Nat}(h:Ats s q (zs (8*z)))(he:q+8*z=8*s.length∨(Mk.atB s (q+8*z)).2=0):zrX s q=z:=by
 have hb:=h.bits;have hl:=h.1;rw[Dz]at hb hl;have hz:8*z≤Mk.zer (aG s q):=by
  refine (nE (aG s q) (8*z) (fJ s q) (by rw[dN];omega)).1 ?_;rw[hb];have e:(zs (8*z)).map und=List.replicate (8*z) 0:=by
   unfold zs;rw[List.map_replicate];rfl
  rw[e];exact M3 _
 have hzb:=rZ s q;have hI:ZrI s q z:=⟨hz,fun m hm ha=>by
  obtain⟨a1,a2⟩:=(Bi s (q+8*m)).1 ha;rw[qz s q (8*m) (by omega)]at a2;rcases he with he|he
  ·omega
  ·have:=((Bi s (q+8*z)).1 he).2;rw[qz s q (8*z) hz]at this;omega⟩
 rcases he with he|he
 ·exact O4 hI he
 ·exact QY (by omega) hI he
theorem sV(h:Hd)(rs:List Rw)(n i:Nat):∀k,∃t,dG h rs n (i+k)=dG h rs n i++t
 |0=>⟨[],by simp⟩
 | k + 1 => by
  obtain⟨t,ht⟩:=sV h rs n i k;rw[←Nat.add_assoc];show ∃t,(match rs[i+k]? with|some r=>dL n (i+k) r (dG h rs n (i+k))++cz h.inter (fA h.fmt) (dW (fL h.fmt) rs (i+k+1)) (mvs (cellsOf (rs.take (i+k)))) r.cells|none=>dG h rs n (i+k))=_;split
  ·rw[ht];unfold dL;split
   ·exact⟨_,by simp only[List.append_assoc];rfl⟩
   ·exact⟨_,by simp only[List.append_assoc];rfl⟩
  ·exact⟨t,ht⟩
attribute [local irreducible] mK in
theorem BA{f:Int}{l:List Cel}:∀{n k:Nat} {c:Cel},eH f l n=true→k<n→l[k]?=some c→mK f k c=true
 |0,k,c,_,hk,_=>absurd hk (by omega)
 | n + 1, k, c, h, hk, hc => by
  rw[eH,Bool.and_eq_true]at h;by_cases he:k=n
  ·subst he;have:=h.2;rw[hc]at this;exact this
  ·exact BA h.1 (by omega) hc
def stI(h:Hd)(rs:List Rw)(p i:Nat):St:=⟨rs.take i,mvs (cellsOf (rs.take i)),dW (fL h.fmt) rs i,p+(dG h rs 0 i).length⟩
theorem Mx{h:Hd}{s:List UInt8}{rs:List Rw}{p i N:Nat}{r:Rw}(h8:p%8=0)(hN:(N:Int)=fA h.fmt*fL h.fmt)(hN1:1≤N)(hi:i≤30)(hr:rs[i]?=some r)(hrow:pR h i r=true)
  (hv:eH h.fmt (cellsOf rs) (cellsOf rs).length=true) (ha:Ats s p (dG h rs 0 (i+1))):rwX h.fmt h.inter s (fA h.fmt) (fL h.fmt) N i (stI h rs p i)=(stI h rs p (i+1),0):=by
 have hcs:=rI hrow;have hlen:=wU hrow;have hcl:r.cells.length=N:=by omega
 have hdr:ym i r=true:=by
  unfold pR at hrow;simp only[Bool.and_eq_true]at hrow;exact hrow.1.2
 have hT:cellsOf (rs.take (i+1))=cellsOf (rs.take i)++r.cells:=iz hr;have hall:cellsOf rs=cellsOf (rs.take (i+1))++cellsOf (rs.drop (i+1)):=by
  unfold cellsOf;rw[←List.flatMap_append,List.take_append_drop]
 have hvc:∀(k:Nat) (c:Cel),r.cells[k]?=some c→mK h.fmt ((mvs (cellsOf (rs.take i))).length+k) c=true:=fun k c hk=>by
  rw[vP];have hkl:=aI hk;refine BA hv ?_ ?_
  ·rw[hall,hT,List.length_append,List.length_append];omega
  ·rw[hall,hT,List.append_assoc,List.getElem?_append_right (by omega),Nat.add_sub_cancel_left,List.getElem?_append_left hkl];exact hk
 rw[kN hr]at ha;have hF:=qi (L:=fL h.fmt) hr;generalize hC:cz h.inter (fA h.fmt) (dW (fL h.fmt) rs (i+1)) (mvs (cellsOf (rs.take i))) r.cells=C at *;have hOnes:uW C:=by
  match hm:r.cells,hcl with
  |[],e=>simp at e;omega
  |c::m,_ =>
   rw[←hC,hm,cz];exact (H2 _ _ (hcs c (by rw[hm];exact List.mem_cons_self))).app
 have hpos:∀pre,dL 0 i r (dG h rs 0 i)=dG h rs 0 i++pre→Ats s (p+(dG h rs 0 i).length) (pre++C):=fun pre hp=>by
  rw[hp,List.append_assoc]at ha;exact ha.app.2
 obtain⟨pre,hp,hX⟩:=NB (s:=s) (q:=p+(dG h rs 0 i).length) (L:=fL h.fmt) (F:=dW (fL h.fmt) rs i) (by omega) hdr hi hOnes hpos;have hA:=(hpos pre hp).app.2;rw[←hC]at hA;have hrc:=Fq (fm:=h.fmt) r.cells [] _ _ hA hcs hvc;rw[hC,hcl]at hrc;unfold rwX rwH;rw[show (stI h rs p i).q=p+(dG h rs 0 i).length from rfl,show (stI h rs p i).first=dW (fL h.fmt) rs i from rfl,hX];simp only;rw[←hF,show (stI h rs p i).vs=mvs (cellsOf (rs.take i)) from rfl,hrc];unfold rwT stI;simp only[if_true,List.nil_append];congr 2
 ·rw[List.take_add_one,hr];rfl
 ·rw[hT,vQ]
 ·rw[kN hr,hC,hp];simp only[List.length_append];omega
theorem Fg{h:Hd}{s:List UInt8}{rs:List Rw}{p N:Nat}(h8:p%8=0)(hN:(N:Int)=fA h.fmt*fL h.fmt)(hN1:1≤N)(hl:rs.length≤30)(hrows:gJ h rs rs.length=true)
  (hv:eH h.fmt (cellsOf rs) (cellsOf rs).length=true) (ha:Ats s p (dG h rs 0 rs.length)):∀n i,i+n=rs.length→rsX h.fmt h.inter s (fA h.fmt) (fL h.fmt) N n i (stI h rs p i)=(stI h rs p rs.length,0)
 |0,i,hi=>by
  rw[Nat.add_zero]at hi;subst hi;rfl
 |n+1,i,hi=>by
  obtain⟨r,hr⟩:∃r,rs[i]?=some r:=⟨_,List.getElem?_eq_getElem (by omega)⟩;obtain⟨t,ht⟩:=sV h rs 0 (i+1) n;rw[show i+1+n=rs.length by omega]at ht;have ha':=ha;rw[ht]at ha';have hw:=Mx h8 hN hN1 (by omega) hr (pQ hrows (by omega) hr) hv ha'.app.1;rw[rsX,hw];simp only[ne_eq,not_true_eq_false,if_false];exact Fg h8 hN hN1 hl hrows hv ha n (i+1) (by omega)
theorem zT{s:List UInt8}{p:Nat}{h:Hd}{rs:List Rw}{z:Int}(h8:p%8=0)(hf:ib h rs z=true)(hv:eH h.fmt (cellsOf rs) (cellsOf rs).length=true)(ha:Ats s p (aS h rs z 0))
  (he:p+(aS h rs z 0).length=8*s.length∨(Mk.atB s (p+(aS h rs z 0).length)).2=0):shX s p=(h,rs,z.toNat,0,p+(aS h rs z 0).length):=by
 obtain⟨hh,hz,hR,hrows⟩:=fM hf;obtain⟨f0,_⟩:=lW hf;have hfb:=qj f0;have hsix:h.fmt=1∨h.fmt=2∨h.fmt=3∨h.fmt=4∨h.fmt=5∨h.fmt=6:=by omega
 have hAL:1≤fA h.fmt*fL h.fmt∧fA h.fmt*fL h.fmt≤1000∧fR h.fmt≤18∧0≤fR h.fmt:=by rcases hsix with e|e|e|e|e|e<;>rw[e]<;>decide
 unfold aS at ha he ⊢;obtain⟨ha1,ha2⟩:=ha.app;obtain⟨ha3,ha4⟩:=ha1.app;have h0:Ats s p (dG h rs 0 0):=by
  obtain⟨t,ht⟩:=sV h rs 0 0 rs.length;rw[Nat.zero_add]at ht;rw[ht]at ha3;exact ha3.app.1
 have o0:dG h rs 0 0=Sh.bY h:=by
  show zs (Bt.bE 0)++Sh.bY h=_;rfl
 rw[o0]at h0;have hd:=tK hh h8 h0;have hrs:=Fg (N:=(fA h.fmt*fL h.fmt).toNat) h8 (by omega) (by omega) (by omega) hrows hv ha3 rs.length 0 (by omega);have hRn:(fR h.fmt).toNat=rs.length:=by omega
 have hst0:stI h rs p 0=⟨[],[],0,p+(Sh.bY h).length⟩:=by
  unfold stI;rw[o0];rfl
 rw[hst0]at hrs;have hl4:=ha4.1;rw[List.length_append]at ha2;rw[Dz]at ha2 hl4;have hpe:Bt.bE (0+(dG h rs 0 rs.length).length)=Mk.bE (p+(dG h rs 0 rs.length).length):=by unfold Bt.bE Mk.bE;omega
 rw[hpe]at ha2 ha4 hl4 he ⊢;simp only[List.length_append,Dz]at he ⊢;have hk:Mk.gQ s (p+(dG h rs 0 rs.length).length)=true:=by
  have h8':Mk.bE (p+(dG h rs 0 rs.length).length)<8:=by unfold Mk.bE;omega
  have e0:=zJ ⟨_,h8'⟩;simp only at e0;rw[←e0]at ha4;have:=ha4.num (by decide) (Int.pow_pos (by decide));unfold Mk.gQ;rw[this];rfl
 have hzr:=LV ha2 (by
  rcases he with he|he
  ·exact .inl (by omega)
  ·refine .inr ?_;rw[←he];congr 2
   omega)
 unfold shX shH;rw[hd];simp only[ne_eq,not_true_eq_false,if_false];unfold bhX;rw[hRn,hrs];unfold bhT;simp only[ne_eq,not_true_eq_false,if_false];rw[show (stI h rs p rs.length).q=p+(dG h rs 0 rs.length).length from rfl,if_pos hk,←Nat.add_assoc];rw[←Nat.add_assoc]at hzr;rw[hzr];unfold shT;simp only[ne_eq,not_true_eq_false,if_false];unfold stI;simp only[List.take_length];congr 4;omega
end Si
end Go.Proofs.YtbpednchkndocaaGreatDoor.Av
