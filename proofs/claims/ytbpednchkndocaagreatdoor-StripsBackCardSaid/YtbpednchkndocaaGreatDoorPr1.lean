/- Rows that are told digit by digit: there and back. Events, there and back. Blocks, there and back. -/
import Derived.Test.YtbpednchkndocaaGreatDoorPq2
set_option linter.unusedVariables false
set_option linter.unusedSimpArgs false
set_option maxRecDepth 100000
set_option maxHeartbeats 64000000
namespace Go.Proofs.YtbpednchkndocaaGreatDoor.Av
namespace Rn
open Go Bt Tc
theorem CR(w:List UInt8):∀(l:List (List UInt8)) (i j:Nat),lG w l i=some j→i≤j∧l[j-i]?=some w
 |[],i,j,h=>by simp[lG]at h
 | r :: l, i, j, h => by
  simp only[lG]at h;split at h
  ·rename_i hr;cases h;simp[hr]
  ·obtain⟨h1,h2⟩:=CR w l (i+1) j h;refine⟨by omega,?_⟩;rw[show j-i=(j-(i+1))+1 by omega,List.getElem?_cons_succ];exact h2
theorem sI(rows:List (List UInt8)):∀(Dg w:List UInt8),(dB rows Dg w).2.1=0 →
  w.length≤(dB rows Dg w).2.2∧∃i:Nat,(dB rows Dg w).1=i∧rows[i]?=some (w++Dg.take ((dB rows Dg w).2.2-w.length))
 |[],w,h=>by simp[dB]at h
 | x :: r, w, h => by
  rw[dB]at h ⊢;cases hs:jo rows w x with
  | done i c =>
   unfold jo at hs;split at hs
   ·rename_i j hj;cases hs;obtain⟨_,h2⟩:=CR _ _ _ _ hj;refine⟨by simp,i,rfl,?_⟩;simp only[Nat.add_sub_cancel_left,List.take_succ_cons,List.take_zero];simpa using h2
   ·split at hs<;>cases hs
  |fail=>rw[hs]at h;simp at h
  | next w' =>
   rw[hs]at h;have hw:w'=w++[x]:=by
    unfold jo at hs;split at hs
    ·cases hs
    ·split at hs
     ·cases hs;rfl
     ·cases hs
   subst hw;obtain⟨h1,i,h2,h3⟩:=sI rows r (w++[x]) h;simp only at h1 h2 h3 ⊢;rw[List.length_append,List.length_singleton]at h1 h3;refine⟨by omega,i,h2,?_⟩;rw[h3];generalize (dB rows r (w++[x])).2.2=c at *;rw[show c-w.length=(c-(w.length+1))+1 by omega,List.take_succ_cons];simp
def rgo(rows:List (List UInt8)):List UInt8→List UInt8→Option Nat
 |[],_=>none
 |x::r,w=>match jo rows w x with
  | .done i c=>if r=[] then some i else none
  | .fail=>none
  | .next w'=>rgo rows r w'
theorem zV(rows:List (List UInt8)):∀(Dg w:List UInt8) (i:Nat),rgo rows Dg w=some i→∀R,dB rows (Dg++R) w=((i:Int),0,w.length+Dg.length)
 |[],w,i,h,R=>by simp[rgo]at h
 | x :: r, w, i, h, R => by
  rw[rgo]at h;rw[List.cons_append,dB];cases hs:jo rows w x with
  | done j c =>
   rw[hs]at h;simp only at h;split at h
   ·rename_i hr;cases h;unfold jo at hs;split at hs
    ·cases hs;simp[hr]
    ·split at hs<;>cases hs
   ·cases h
  |fail=>rw[hs]at h;cases h
  | next w' =>
   rw[hs]at h;have hw:w'=w++[x]:=by
    unfold jo at hs;split at hs
    ·cases hs
    ·split at hs
     ·cases hs;rfl
     ·cases hs
   subst hw;have:=zV rows r (w++[x]) i h R;simp only[this,List.length_append,List.length_cons,List.length_nil];rw[show w.length+(0+1)+r.length=w.length+(r.length+1) by omega]
theorem A9(c:UInt8)(h:bB c=true):cn (und c)=c∧(und c=0∨und c=1):=by
 rcases lD h with rfl|rfl<;>decide
theorem vT(w:List UInt8)(h:w.all bB=true):(w.map und).map cn=w:=by
 rw[List.map_map]
 conv=>rhs;rw[←List.map_id w]
 apply List.map_congr_left;intro c hc;exact (A9 c (List.all_eq_true.1 h c hc)).1
theorem DD(w:List UInt8)(h:w.all bB=true):∀b∈w.map und,b=0∨b=1:=by
 intro b hb;obtain⟨c,hc,rfl⟩:=List.mem_map.1 hb;exact (A9 c (List.all_eq_true.1 h c hc)).2
theorem FQ(l:List Int)(h:∀b∈l,b=0∨b=1):(l.map cn).map und=l:=by
 rw[List.map_map]
 conv=>rhs;rw[←List.map_id l]
 apply List.map_congr_left;intro c hc;exact BC c (h c hc)
theorem yO:∀(n:Nat) (v:Int),0≤v→v<2^n→iT (bU v n n)=v
 |0,v,h0,h1=>by
  have:v=0:=by simp at h1;omega
  subst this;rfl
 | n + 1, v, h0, h1 => by
  have hp:(2:Int)^(n+1)=2*2^n:=by rw[Int.pow_succ];omega
  rw[zr,lV,yO n (v/2) (by omega) (by omega)];have:((dg v).toNat:Int)=48+v%2:=by
   rw[Gl];exact (xD _ (by omega)).1
  omega
theorem qK(n:Nat)(v:Int)(h0:0≤v)(h1:v<2^n):nB ((bU v n n).map und)=v:=by
 have hd:=Wr.jH v n n;rw[←xe _ (DD _ hd),vT _ hd];exact yO n v h0 h1
theorem vZ(l:List Int)(h:∀b∈l,b=0∨b=1):bU (nB l) l.length l.length=l.map cn:=by
 have hd:=all_map l h;have:=C0 (l.map cn) hd;rw[xe l h,List.length_map]at this;exact this
end Rn
namespace Rn
open Go Bt Tc Bl
def Qr(la:Bool)(ru:Int)(am:Int):Nat:=(lG (kP la ru am) dX 0).getD 0
theorem Qq:∀la:Bool,∀ru:_root_.Fin 64,∀a:_root_.Fin 12,(a.val:Int)<dx la ru.val →
  rgo dX (kP la ru.val (a.val+1)) []=some (Qr la ru.val (a.val+1))∧lK (Qr la ru.val (a.val+1))=(la,ru.val,a.val+1)∧Qr la ru.val (a.val+1)≠0:=by decide +kernel
theorem NQ:rgo dX [48,48,48,48,48,49,49] []=some 0:=by decide +kernel
theorem Rq:dX[0]?=some [48,48,48,48,48,49,49]:=rfl
theorem QU:∀i:_root_.Fin 103,i.val≠0→dX.getD i.val []=kP (lK i.val).1 (lK i.val).2.1 (lK i.val).2.2∧kP (lK i.val).1 (lK i.val).2.1 (lK i.val).2.2≠[]∧(1≤(lK i.val).2.2∧(lK i.val).2.2≤12)∧(lK i.val).2.1≤63:=by decide +kernel
theorem Qo(la:Bool)(ru am:Int)(h:0≤ru∧ru≤63)(ha:1≤am)(hm:¬dx la ru<am):∃i:Nat,i≠0∧rgo dX (kP la ru am) []=some i∧lK i=(la,ru.toNat,am.toNat):=by
 have hb:=iZ la ru;have k:=Qq la ⟨ru.toNat,by omega⟩ ⟨(am-1).toNat,by omega⟩;simp only at k;rw[show ((ru.toNat:Nat):Int)=ru by omega,show (((am-1).toNat:Nat):Int)=am-1 by omega,show am-1+1=am by omega,show (am-1).toNat+1=am.toNat by omega]at k;obtain⟨k1,k2,k3⟩:=k (by omega);exact⟨_,k3,k1,k2⟩
attribute [local irreducible] kP dX lK dx Tc.dD bU
def tH(n:Int):Int:=if n<0 then 256+n else n
theorem J8(la:Bool):(rQ la).map und=[if la=true then 1 else 0]:=by cases la<;>rfl
theorem I5(n:Int):(uw n).map und=[if n<0 then 1 else 0]:=by unfold uw;split<;>rfl
theorem NP(e:Ev)(h:evR e=true)(hw:kP e.last e.run (kI e.level)=[])(R:List Int):
  og (nB (((((rQ e.last)++bU e.run 6 6)++bU (tH e.level) 8 8).map und++R).take 15)) (((((rQ e.last)++bU e.run 6 6)++bU (tH e.level) 8 8).map und++R).length)=(e,0,22):=by
 obtain⟨la,ru,le⟩:=e;have hb:(0≤ru∧ru≤63)∧le≠0 ∧ -127≤le∧le≤127:=of_decide_eq_true h;have l15:((((rQ la)++bU ru 6 6)++bU (tH le) 8 8).map und).length=15:=by
  rw[List.length_map,List.length_append,List.length_append,tu,bV,bV]
 simp only;rw[List.take_left' l15,List.map_append,List.map_append,J8,rM,rM,qK 6 ru hb.1.1 (by omega),qK 8 (tH le) (by unfold tH;split<;>omega) (by unfold tH;split<;>omega),List.length_map,List.length_map,bV,bV];have n1:nB [if la=true then (1:Int) else 0]=if la=true then 1 else 0:=by simp[nB]
 rw[n1];have e0:=KO (if la=true then 1 else 0) ru (tH le) (by split<;>simp) (by omega) (by unfold tH;split<;>omega);have e1:fu (((if la=true then 1 else 0)*2^6+ru)*2^8+tH le)=⟨la,ru,le⟩:=by
  rw[show (2:Int)^6=64 by decide,show (2:Int)^8=256 by decide,e0];congr 1
  ·cases la<;>decide
  ·unfold tH;split<;>split<;>omega
 unfold og;rw[if_neg (by rw[List.length_append,List.length_append,List.length_append,List.length_singleton,List.length_map,List.length_map,bV,bV];omega),e1];have hp:=zf h;rw[decide_eq_true hw]at hp;have eb:kR ⟨la,ru,le⟩=false:=by
  unfold kR;rw[h];simpa using hp.symm
 rw[eb,if_neg (by decide)]
theorem HF(e:Ev)(h:evR e=true):(cW e).all bB=true:=(ql e h).1
theorem NM(e:Ev)(h:evR e=true)(R:List Int)(hR:∀b∈R,b=0∨b=1):evX ((cW e).map und++R)=(e,0,(cW e).length):=by
 obtain⟨la,ru,le⟩:=e;have hb:(0≤ru∧ru≤63)∧le≠0 ∧ -127≤le∧le≤127:=of_decide_eq_true h;have ab:=Bp hb.2;have hmap:((cW ⟨la,ru,le⟩).map und++R).map cn=cW ⟨la,ru,le⟩++R.map cn:=by rw[List.map_append,vT _ (HF _ h)]
 by_cases hw:kP la ru (kI le)=[]
 ·have er:cW ⟨la,ru,le⟩=[48,48,48,48,48,49,49]++(((rQ la)++bU ru 6 6)++bU (tH le) 8 8):=by
   unfold cW tH;rw[if_pos h,if_neg (by simpa using hw)];simp[List.append_assoc]
  have hx:=NP ⟨la,ru,le⟩ h hw R;unfold evX;rw[hmap,er,List.append_assoc,zV dX _ [] 0 NQ];simp only[ne_eq,not_true_eq_false,if_false];rw[if_pos (show ((0:Nat):Int)=0 from rfl)];rw[List.map_append,List.append_assoc,List.drop_left' (show (([48,48,48,48,48,49,49]:List UInt8).map und).length=7 from rfl)];have hl:((([48,48,48,48,48,49,49]:List UInt8).map und++((((rQ la)++bU ru 6 6)++bU (tH le) 8 8).map und++R)).length-7)=((((rQ la)++bU ru 6 6)++bU (tH le) 8 8).map und++R).length:=by
   rw[List.length_append,show (([48,48,48,48,48,49,49]:List UInt8).map und).length=7 from rfl];omega
  rw[hl,hx];congr 2;rw[List.length_append,List.length_append,List.length_append,tu,bV,bV];rfl
 ·have hm:¬dx la ru<kI le:=fun hm=>hw (Iw la ru (kI le) hb.1 hm).1
  obtain⟨i,h0,h1,h2⟩:=Qo la ru (kI le) hb.1 ab.1 hm;have er:cW ⟨la,ru,le⟩=kP la ru (kI le)++uw le:=by
   unfold cW;rw[if_pos h,if_pos (by simpa using hw)]
  have hr:=zV dX _ [] i h1 (uw le++R.map cn);rw[←List.append_assoc,←er,←hmap,List.length_nil,Nat.zero_add]at hr;unfold evX;rw[hr];simp only[ne_eq,not_true_eq_false,if_false];rw[if_neg (by omega),Int.toNat_natCast,h2,if_neg (by rw[er,List.length_append,List.length_map,List.length_append,sF];omega)];have hg:((cW ⟨la,ru,le⟩).map und++R).getD (kP la ru (kI le)).length 0=if le<0 then 1 else 0:=by
   rw[er,List.map_append,I5,List.append_assoc,List.getD_eq_getElem?_getD,List.getElem?_append_right (by rw[List.length_map];omega),List.length_map,Nat.sub_self];rfl
  rw[hg,er,List.length_append,sF];congr 1;have e1:((ru.toNat:Nat):Int)=ru:=by omega
  have e2:(((kI le).toNat:Nat):Int)=kI le:=by omega
  simp only[e1,e2];unfold kI;congr 1;split<;>omega
theorem NL(B:List Int)(hB:∀b∈B,b=0∨b=1)(h:(evX B).2.1=0):evR (evX B).1=true∧(evX B).2.2≤B.length∧(B.take (evX B).2.2).map cn=cW (evX B).1:=by
 have ha:=sI dX (B.map cn) [];have hu:=nN dX (B.map cn) [];unfold evX at h ⊢;generalize dB dX (B.map cn) []=R at *;obtain⟨i,e,c⟩:=R;simp only at h ha hu ⊢;by_cases he:e≠0
 ·rw[if_pos he]at h;exact absurd h he
 ·rw[if_neg he]at h ⊢;have he0:e=0:=by simpa using he
  obtain⟨_,n,hn,hrow⟩:=ha he0;have hu:=hu he0;simp only[List.length_nil,Nat.sub_zero,List.nil_append,Nat.zero_add,List.length_map]at hrow hu;subst hn;rw[←List.map_take]at hrow;by_cases h0:(n:Int)=0
  ·rw[if_pos h0]at h ⊢;obtain rfl:n=0:=by omega
   rw[Rq]at hrow;have hc7:c=7:=by
    have:=congrArg (fun o=>o.map List.length) hrow;simp[List.length_take]at this;omega
   subst hc7;have hpre:(B.take 7).map cn=[48,48,48,48,48,49,49]:=by simpa using hrow.symm
   unfold og at h ⊢;by_cases h15:B.length-7<15
   ·rw[if_pos h15]at h;cases h
   ·rw[if_neg h15]at h ⊢;by_cases hbad:kR (fu (nB ((B.drop 7).take 15)))=true
    ·rw[if_pos hbad]at h;cases h
    ·rw[if_neg hbad]at h ⊢;have hB2:∀n k,∀b∈(B.drop n).take k,b=0∨b=1:=fun n k b hb=>hB b (List.mem_of_mem_drop (List.mem_of_mem_take hb))
     have e15:(B.drop 7).take 15=(B.drop 7).take 1++((B.drop 8).take 6++(B.drop 14).take 8):=by
      rw[show 15=1+(6+8) from rfl,List.take_add,List.take_add,List.drop_drop,List.drop_drop]
     have l1:((B.drop 7).take 1).length=1:=by rw[List.length_take,List.length_drop];omega
     have l6:((B.drop 8).take 6).length=6:=by rw[List.length_take,List.length_drop];omega
     have l8:((B.drop 14).take 8).length=8:=by rw[List.length_take,List.length_drop];omega
     obtain⟨b0,hb0⟩:∃b,(B.drop 7).take 1=[b]:=List.length_eq_one_iff.1 l1;have hb01:b0=0∨b0=1:=hB2 7 1 b0 (by rw[hb0];simp);have m6:=mR 6 _ l6 (hB2 8 6);have m8:=mR 8 _ l8 (hB2 14 8);have d6:=vZ _ (hB2 8 6);have d8:=vZ _ (hB2 14 8);rw[l6]at d6;rw[l8]at d8;have hval:nB ((B.drop 7).take 15)=(b0*64+nB ((B.drop 8).take 6))*256+nB ((B.drop 14).take 8):=by
      rw[e15,rM,rM,List.length_append,l6,l8,hb0,show nB [b0]=b0 by simp[nB]];omega
     have hesc:=KO b0 (nB ((B.drop 8).take 6)) (nB ((B.drop 14).take 8)) hb01 (by omega) (show 0≤nB ((B.drop 14).take 8)∧nB ((B.drop 14).take 8)<256 by omega);rw[←hval]at hesc;have heb:kR (fu (nB ((B.drop 7).take 15)))=false:=by simpa using hbad
     generalize hE:fu (nB ((B.drop 7).take 15))=E at *;have hR:evR E=true:=by
      unfold kR at heb;cases hr:evR E with
      |true=>rfl
      |false=>rw[hr]at heb;simp at heb
     have hp:=zf hR;have hw:kP E.last E.run (kI E.level)=[]:=by
      unfold kR at heb;rw[hR]at heb;have h1:decide (0≤Tc.dD E.last E.run (max E.level (-E.level)))=false:=by simpa using heb
      rw[h1]at hp;exact of_decide_eq_true hp
     refine⟨hR,by simp only;omega,?_⟩;unfold cW;rw[if_pos hR,if_neg (by simpa using hw)];simp only;rw[show 22=7+15 from rfl,List.take_add,List.map_append,hpre,e15,List.map_append,List.map_append,←d6,←d8,hb0,hesc];simp only;have q1:rQ (decide (48+b0=49))=[b0].map cn:=by rcases hb01 with rfl|rfl<;>rfl
     have q2:(if (if 127<nB ((B.drop 14).take 8) then nB ((B.drop 14).take 8)-256 else nB ((B.drop 14).take 8))<0 then 256+(if 127<nB ((B.drop 14).take 8) then nB ((B.drop 14).take 8)-256 else nB ((B.drop 14).take 8)) else (if 127<nB ((B.drop 14).take 8) then nB ((B.drop 14).take 8)-256 else nB ((B.drop 14).take 8)))=nB ((B.drop 14).take 8):=by
      split<;>split<;>omega
     rw[q1,q2];simp[List.append_assoc]
  ·rw[if_neg h0]at h ⊢;by_cases hlast:B.length≤c
   ·rw[if_pos hlast]at h;cases h
   ·rw[if_neg hlast]at h ⊢;rw[Int.toNat_natCast]at h ⊢;have hn3:n<103:=by
     have:=aI hrow
     rwa [Ex]at this
    obtain⟨k1,k2,k3,k4⟩:=QU ⟨n,hn3⟩ (by simp only;omega);simp only at k1 k2 k3 k4;rw[List.getD_eq_getElem?_getD,hrow,Option.getD_some]at k1;generalize lK n=ea at *;obtain⟨la,ru,am⟩:=ea;simp only at k1 k2 k3 k4 ⊢;have hbm:B.getD c 0=0∨B.getD c 0=1:=by
     rw[List.getD_eq_getElem?_getD,List.getElem?_eq_getElem (by omega)];exact hB _ (List.getElem_mem _)
    have ht:B.take (c+1)=B.take c++[B.getD c 0]:=by
     rw[List.take_add_one,List.getElem?_eq_getElem (by omega),List.getD_eq_getElem?_getD,List.getElem?_eq_getElem (by omega)];rfl
    generalize B.getD c 0=b at *;have hR:evR ⟨la,(ru:Int),(am:Int)*(1-2*b)⟩=true:=by
     refine decide_eq_true ⟨⟨by simp only;omega,by simp only;omega⟩,?_⟩;simp only;rcases hbm with rfl|rfl<;>omega
    refine⟨hR,by omega,?_⟩;have ha:kI ((am:Int)*(1-2*b))=am:=by unfold kI;rcases hbm with rfl|rfl<;>(split<;>omega)
    have hsg:uw ((am:Int)*(1-2*b))=[cn b]:=by
     unfold uw;rcases hbm with rfl|rfl
     ·rw[if_neg (by omega)];rfl
     ·rw[if_pos (by omega)];rfl
    unfold cW;rw[if_pos hR];simp only;rw[ha,if_pos (by simpa using k2),hsg,←k1,ht,List.map_append];rfl
end Rn
namespace Rn
open Go Bt Tc Bl
attribute [local irreducible] evX cW nB bU
theorem CU:∀(f:Nat) (B:List Int) (a:Nat),(∀b∈B,b=0∨b=1)→(gh f B (a:Int)).2.1=0 →
  (gh f B (a:Int)).1≠[]∧(gh f B (a:Int)).2.2≤B.length∧(B.take (gh f B (a:Int)).2.2).map cn=(gh f B (a:Int)).1.flatMap cW∧∀out,(rS (gh f B (a:Int)).1 a out).isSome=true
 |0,B,a,_,h=>by simp[gh]at h
 | f + 1, B, a, hB, h => by
  rw[gh]at h ⊢;by_cases h0:(evX B).2.1≠0
  ·rw[if_pos h0]at h;exact absurd h h0
  ·rw[if_neg h0]at h ⊢;have h00:(evX B).2.1=0:=by simpa using h0
   obtain⟨o1,o2,o3⟩:=NL B hB h00;have hb:=xC o1;by_cases h1:64<(a:Int)+((evX B).1.run+1)
   ·rw[if_pos h1]at h;cases h
   ·rw[if_neg h1]at h ⊢;by_cases h2:(evX B).1.last=true
    ·rw[if_pos h2]at h ⊢;refine⟨by simp,o2,by simpa using o3,fun out=>?_⟩;rw[nU,if_pos ⟨o1,by rw[h2];rfl,by omega⟩,xn];rfl
    ·rw[if_neg h2]at h ⊢;have ea:(a:Int)+((evX B).1.run+1)=((a+(evX B).1.run.toNat+1:Nat):Int):=by omega
     rw[ea]at h ⊢;have ih:=CU f (B.drop (evX B).2.2) (a+(evX B).1.run.toNat+1) (fun b hb=>hB b (List.mem_of_mem_drop hb));generalize gh f (B.drop (evX B).2.2) ((a+(evX B).1.run.toNat+1:Nat):Int)=y at *;by_cases h3:y.2.1≠0
     ·rw[if_pos h3]at h;exact absurd h h3
     ·rw[if_neg h3]at h ⊢;obtain⟨i1,i2,i3,i4⟩:=ih (by simpa using h3);rw[List.length_drop]at i2;refine⟨by simp,by simp only;omega,?_,fun out=>?_⟩
      ·simp only;rw[List.take_add,List.map_append,o3,i3];rfl
      ·simp only;have he:(evX B).1.last=y.1.isEmpty:=by
        cases hy:y.1 with
        |nil=>exact absurd hy i1
        |cons _ _=>simpa using h2
       rw[nU,if_pos ⟨o1,he,by omega⟩];exact i4 _
theorem MB(l:List Ev)(h:∀e∈l,evR e=true)(R:List Int)(hR:∀b∈R,b=0∨b=1):∀b∈(l.flatMap cW).map und++R,b=0∨b=1:=fun b hb=>by
 rcases List.mem_append.1 hb with hb|hb
 ·exact DD _ (rows_ok l h).1 b hb
 ·exact hR b hb
theorem CV:∀(l:List Ev) (f a:Nat) (out:List Int) (R:List Int),(∀b∈R,b=0∨b=1)→l≠[]→l.length≤f→(rS l a out).isSome=true→gh f ((l.flatMap cW).map und++R) (a:Int)=(l,0,(l.flatMap cW).length)
 |[],f,a,out,R,_,h,_,_=>absurd rfl h
 |e::l,0,a,out,R,_,_,h,_=>by simp at h
 | e :: l, f + 1, a, out, R, hR, _, hf, hl => by
  obtain⟨r,hr⟩:=Option.isSome_iff_exists.1 hl;have hall:=(rR _ _ _ _ hr).2.1;rw[nU]at hl;by_cases hc:evR e=true∧e.last=l.isEmpty∧a+e.run.toNat<64
  ·rw[if_pos hc]at hl;obtain⟨c1,c2,c3⟩:=hc;have hb:=xC c1;have h01:=MB l (fun x hx=>hall x (List.mem_cons_of_mem _ hx)) R hR;have eb:=NM e c1 ((l.flatMap cW).map und++R) h01;have hB:((e::l).flatMap cW).map und++R=(cW e).map und++((l.flatMap cW).map und++R):=by
    rw[List.flatMap_cons,List.map_append,List.append_assoc]
   rw[gh,hB,eb];simp only[ne_eq,not_true_eq_false,if_false];rw[if_neg (by omega)];cases l with
   |nil =>
    rw[if_pos (by rw[c2];rfl)];simp
   |cons x t =>
    rw[if_neg (by rw[c2];simp)];have ea:(a:Int)+(e.run+1)=((a+e.run.toNat+1:Nat):Int):=by omega
    rw[ea,List.drop_left' (by rw[List.length_map])];rw[CV (x::t) f (a+e.run.toNat+1) _ R hR (by simp) (by simp at hf ⊢;omega) hl];simp only[ne_eq,not_true_eq_false,if_false];rw[show (e::x::t).flatMap cW=cW e++(x::t).flatMap cW from rfl,List.length_append]
  ·rw[if_neg hc]at hl;cases hl
theorem NS(intra:Bool)(B:List Int)(hB:∀b∈B,b=0∨b=1)(h:(dc0 intra B).2.1=0):uL intra (dc0 intra B).1=true∧(dc0 intra B).2.2≤B.length∧(B.take (dc0 intra B).2.2).map cn=gU intra (dc0 intra B).1:=by
 unfold dc0 at h ⊢;cases intra with
 |false=>simp[uL,gU]
 | true =>
  simp only[if_true]at h ⊢;unfold dcX at h ⊢;by_cases h8:B.length<8
  ·rw[if_pos h8]at h;cases h
  ·rw[if_neg h8]at h ⊢;have h01:∀b∈B.take 8,b=0∨b=1:=fun b hb=>hB b (List.mem_of_mem_take hb)
   have hl:(B.take 8).length=8:=by rw[List.length_take];omega
   have hd:=vZ _ h01;have hb:=mR 8 _ hl h01;rw[hl]at hd;generalize nB (B.take 8)=v at *;by_cases h0:v=0∨v=128
   ·rw[if_pos h0]at h;cases h
   ·rw[if_neg h0]at h ⊢;by_cases h1:v=255
    ·rw[if_pos h1];subst h1;exact⟨rfl,by simp only;omega,by simpa[gU]using hd.symm⟩
    ·rw[if_neg h1];refine⟨decide_eq_true (by simp only;omega),by simp only;omega,?_⟩;unfold gU;rw[if_pos rfl,if_neg (by simp only;omega)];exact hd.symm
theorem NT(intra:Bool)(dc:Int)(R:List Int)(h:uL intra dc=true):dc0 intra ((gU intra dc).map und++R)=(dc,0,(gU intra dc).length):=by
 unfold dc0 gU;cases intra with
 |false =>
  have:dc=0:=of_decide_eq_true h;subst this;rfl
 |true =>
  have hb:1≤dc∧dc≤254:=of_decide_eq_true h;simp only[if_true];rw[List.take_left' (by rw[List.length_map,bV]),qK 8 _ (by split<;>omega) (by split<;>omega),bV];unfold dcX;rw[if_neg (by rw[List.length_append,List.length_map,bV];omega),if_neg (by split<;>omega)];by_cases h2:dc=128
  ·rw[if_pos h2,if_pos rfl,h2]
  ·rw[if_neg h2,if_neg (by omega)]
theorem Ot(intra coded:Bool)(B:List Int)(hB:∀b∈B,b=0∨b=1)(h:(blX intra coded B).2.2.1=0):
  eB intra (blX intra coded B).1 (blX intra coded B).2.1=true∧(blX intra coded B).2.2.2≤B.length∧(B.take (blX intra coded B).2.2.2).map cn=dI intra (blX intra coded B).1 (blX intra coded B).2.1∧coded=!(blX intra coded B).2.1.isEmpty:=by
 unfold blX at h ⊢;by_cases h0:(dc0 intra B).2.1≠0
 ·rw[if_pos h0]at h;exact absurd h h0
 ·rw[if_neg h0]at h ⊢;obtain⟨d1,d2,d3⟩:=NS intra B hB (by simpa using h0);generalize dc0 intra B=d at *;cases coded with
  | false =>
   simp only[Bool.false_eq_true,if_false]at h ⊢;refine⟨?_,d2,?_,rfl⟩
   ·unfold eB;rw[d1,show lev [] (frm intra)=some z64 from rfl];rfl
   ·unfold dI;rw[d3];simp
  | true =>
   simp only[if_true]at h ⊢;have ho:=CU 66 (B.drop d.2.2) (frm intra) (fun b hb=>hB b (List.mem_of_mem_drop hb));generalize gh 66 (B.drop d.2.2) (frm intra:Nat)=y at *;by_cases h1:y.2.1≠0
   ·rw[if_pos h1]at h;exact absurd h h1
   ·rw[if_neg h1]at h ⊢;obtain⟨o1,o2,o3,o4⟩:=ho (by simpa using h1);rw[List.length_drop]at o2;simp only;refine⟨?_,by omega,?_,?_⟩
    ·unfold eB lev;rw[o4,d1];rfl
    ·unfold dI;rw[List.take_add,List.map_append,d3,o3]
    ·cases hy:y.1 with
     |nil=>exact absurd hy o1
     |cons _ _=>rfl
theorem Ou(intra:Bool)(dc:Int)(l:List Ev)(R:List Int)(hR:∀b∈R,b=0∨b=1)(h:eB intra dc l=true):blX intra (!l.isEmpty) ((dI intra dc l).map und++R)=(dc,l,0,(dI intra dc l).length):=by
 have h2:=h;unfold eB at h2;rw[Bool.and_eq_true]at h2;obtain⟨m1,m2⟩:=h2;have hB:(dI intra dc l).map und++R=(gU intra dc).map und++((l.flatMap cW).map und++R):=by
  unfold dI;rw[List.map_append,List.append_assoc]
 have hd:=NT intra dc ((l.flatMap cW).map und++R) m2;have hbl:(dI intra dc l).length=(gU intra dc).length+(l.flatMap cW).length:=by unfold dI;rw[List.length_append]
 unfold blX;rw[hB,hd,hbl];simp only[ne_eq,not_true_eq_false,if_false];cases l with
 |nil=>simp
 |cons e t =>
  rw[if_pos (by rfl),List.drop_left' (by rw[List.length_map])];have hl:(e::t).length≤64:=(uQ h).2.1;rw[CV (e::t) 66 (frm intra) z64 R hR (by simp) (by omega) m1];simp
end Rn
end Go.Proofs.YtbpednchkndocaaGreatDoor.Av
