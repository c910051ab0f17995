/- Rows that are told digit by digit: there and back. Events, there and back. Blocks, there and back. -/
import Derived.Test.YtbpednchkndocaaGreatDoorPq2
set_option linter.unusedVariables false
set_option linter.unusedSimpArgs false
set_option maxRecDepth 100000
set_option maxHeartbeats 64000000
namespace Go.Proofs.YtbpednchkndocaaGreatDoor.Av
namespace Rn
open Go Bt Tc
theorem Ao (w:List UInt8):∀(l:List (List UInt8)) (i j:Nat),gu w l i=some j→i≤j∧l[j - i]?=some w
 |[],i,j,h=>by simp[gu]at h
 |r::l,i,j,h=>by
  simp only[gu]at h
  split at h
  ·rename_i hr
   cases h
   simp[hr]
  ·obtain⟨h1,h2⟩:=Ao w l (i+1) j h
   refine⟨by omega,?_⟩
   rw[show j - i=(j - (i+1))+1 by omega,List.getElem?_cons_succ]
   exact h2
theorem qf (rows:List (List UInt8)):∀(Dg w:List UInt8),(cV rows Dg w).2.1=0 →
  w.length≤(cV rows Dg w).2.2∧∃i:Nat,(cV rows Dg w).1=i∧rows[i]?=some (w++Dg.take ((cV rows Dg w).2.2 - w.length))
 |[],w,h=>by simp[cV]at h
 |x::r,w,h=>by
  rw[cV]at h ⊢
  cases hs:iH rows w x with
  |done i c =>
   unfold iH at hs
   split at hs
   ·rename_i j hj
    cases hs
    obtain⟨_,h2⟩:=Ao _ _ _ _ hj
    refine⟨by simp,i,rfl,?_⟩
    simp only[Nat.add_sub_cancel_left,List.take_succ_cons,List.take_zero]
    simpa using h2
   ·split at hs<;>cases hs
  |fail=>rw[hs]at h;simp at h
  |next w' =>
   rw[hs]at h
   have hw:w'=w++[x]:=by
    unfold iH at hs
    split at hs
    ·cases hs
    ·split at hs
     ·cases hs;rfl
     ·cases hs
   subst hw
   obtain⟨h1,i,h2,h3⟩:=qf rows r (w++[x]) h
   simp only at h1 h2 h3 ⊢
   rw[List.length_append,List.length_singleton]at h1 h3
   refine⟨by omega,i,h2,?_⟩
   rw[h3]
   generalize (cV rows r (w++[x])).2.2=c at *
   rw[show c - w.length=(c - (w.length+1))+1 by omega,List.take_succ_cons]
   simp
theorem xZ (l:List Int) (h:∀b∈l,b=0∨b=1):(l.map bM).map und=l:=by
 rw[List.map_map]
 conv=>rhs;rw[←List.map_id l]
 apply List.map_congr_left
 intro c hc
 exact yY c (h c hc)
theorem tX (l:List Int) (h:∀b∈l,b=0∨b=1):cH (nB l) l.length l.length=l.map bM:=by
 have hd:=all_map l h
 have:=Hz (l.map bM) hd
 rw[jZ l h,List.length_map]at this
 exact this
end Rn
namespace Rn
open Go Bt Tc Bl
theorem M5:dF[0]?=some [48,48,48,48,48,49,49]:=rfl
theorem MG:∀i:_root_.Fin 103,i.val≠0→dF.getD i.val []=kZ (jh i.val).1 (jh i.val).2.1 (jh i.val).2.2∧kZ (jh i.val).1 (jh i.val).2.1 (jh i.val).2.2≠[]∧(1≤(jh i.val).2.2∧(jh i.val).2.2≤12)∧(jh i.val).2.1≤63:=by decide +kernel
attribute [local irreducible] kZ dF jh eP Tc.dE cH
theorem JI (B:List Int) (hB:∀b∈B,b=0∨b=1) (h:(evX B).2.1=0):evR (evX B).1=true∧(evX B).2.2≤B.length∧(B.take (evX B).2.2).map bM=qM (evX B).1:=by
 have ha:=qf dF (B.map bM) []
 have hu:=kL dF (B.map bM) []
 unfold evX at h ⊢
 generalize cV dF (B.map bM) []=R at *
 obtain⟨i,e,c⟩:=R
 simp only at h ha hu ⊢
 by_cases he:e≠0
 ·rw[if_pos he]at h;exact absurd h he
 ·rw[if_neg he]at h ⊢
  have he0:e=0:=by simpa using he
  obtain⟨_,n,hn,hrow⟩:=ha he0
  have hu:=hu he0
  simp only[List.length_nil,Nat.sub_zero,List.nil_append,Nat.zero_add,List.length_map]at hrow hu
  subst hn
  rw[←List.map_take]at hrow
  by_cases h0:(n:Int)=0
  ·rw[if_pos h0]at h ⊢
   obtain rfl:n=0:=by omega
   rw[M5]at hrow
   have hc7:c=7:=by
    have:=congrArg (fun o=>o.map List.length) hrow
    simp[List.length_take]at this
    omega
   subst hc7
   have hpre:(B.take 7).map bM=[48,48,48,48,48,49,49]:=by simpa using hrow.symm
   unfold lw at h ⊢
   by_cases h15:B.length - 7<15
   ·rw[if_pos h15]at h;cases h
   ·rw[if_neg h15]at h ⊢
    by_cases hbad:jL (dY (nB ((B.drop 7).take 15)))=true
    ·rw[if_pos hbad]at h;cases h
    ·rw[if_neg hbad]at h ⊢
     have hB2:∀n k,∀b∈(B.drop n).take k,b=0∨b=1:=fun n k b hb=>hB b (List.mem_of_mem_drop (List.mem_of_mem_take hb))
     have e15:(B.drop 7).take 15=(B.drop 7).take 1++((B.drop 8).take 6++(B.drop 14).take 8):=by
      rw[show 15=1+(6+8) from rfl,List.take_add,List.take_add,List.drop_drop,List.drop_drop]
     have l1:((B.drop 7).take 1).length=1:=by rw[List.length_take,List.length_drop];omega
     have l6:((B.drop 8).take 6).length=6:=by rw[List.length_take,List.length_drop];omega
     have l8:((B.drop 14).take 8).length=8:=by rw[List.length_take,List.length_drop];omega
     obtain⟨b0,hb0⟩:∃b,(B.drop 7).take 1=[b]:=List.length_eq_one_iff.1 l1
     have hb01:b0=0∨b0=1:=hB2 7 1 b0 (by rw[hb0];simp)
     have m6:=jd 6 _ l6 (hB2 8 6)
     have m8:=jd 8 _ l8 (hB2 14 8)
     have d6:=tX _ (hB2 8 6)
     have d8:=tX _ (hB2 14 8)
     rw[l6]at d6
     rw[l8]at d8
     have hval:nB ((B.drop 7).take 15)=(b0*64+nB ((B.drop 8).take 6))*256+nB ((B.drop 14).take 8):=by
      rw[e15,mO,mO,List.length_append,l6,l8,hb0,show nB [b0]=b0 by simp[nB]]
      omega
     have hesc:=Hs b0 (nB ((B.drop 8).take 6)) (nB ((B.drop 14).take 8)) hb01 (by omega) (show 0≤nB ((B.drop 14).take 8)∧nB ((B.drop 14).take 8)<256 by omega)
     rw[←hval]at hesc
     have heb:jL (dY (nB ((B.drop 7).take 15)))=false:=by simpa using hbad
     generalize hE:dY (nB ((B.drop 7).take 15))=E at *
     have hR:evR E=true:=by
      unfold jL at heb
      cases hr:evR E with
      |true=>rfl
      |false=>rw[hr]at heb;simp at heb
     have hp:=wL hR
     have hw:kZ E.last E.run (mE E.level)=[]:=by
      unfold jL at heb
      rw[hR]at heb
      have h1:decide (0≤Tc.dE E.last E.run (max E.level (-E.level)))=false:=by simpa using heb
      rw[h1]at hp
      exact of_decide_eq_true hp
     refine⟨hR,by simp only;omega,?_⟩
     unfold qM
     rw[if_pos hR,if_neg (by simpa using hw)]
     simp only
     rw[show 22=7+15 from rfl,List.take_add,List.map_append,hpre,e15,List.map_append,List.map_append,←d6,←d8,hb0,hesc]
     simp only
     have q1:Nu (decide (48+b0=49))=[b0].map bM:=by rcases hb01 with rfl|rfl<;>rfl
     have q2:(if (if 127<nB ((B.drop 14).take 8) then nB ((B.drop 14).take 8) - 256 else nB ((B.drop 14).take 8))<0 then 256+(if 127<nB ((B.drop 14).take 8) then nB ((B.drop 14).take 8) - 256 else nB ((B.drop 14).take 8)) else (if 127<nB ((B.drop 14).take 8) then nB ((B.drop 14).take 8) - 256 else nB ((B.drop 14).take 8)))=nB ((B.drop 14).take 8):=by
      split<;>split<;>omega
     rw[q1,q2]
     simp[List.append_assoc]
  ·rw[if_neg h0]at h ⊢
   by_cases hlast:B.length≤c
   ·rw[if_pos hlast]at h;cases h
   ·rw[if_neg hlast]at h ⊢
    rw[Int.toNat_natCast]at h ⊢
    have hn3:n<103:=by
     have:=aJ hrow
     rwa [vh]at this
    obtain⟨k1,k2,k3,k4⟩:=MG ⟨n,hn3⟩ (by simp only;omega)
    simp only at k1 k2 k3 k4
    rw[List.getD_eq_getElem?_getD,hrow,Option.getD_some]at k1
    generalize jh n=ea at *
    obtain⟨la,ru,am⟩:=ea
    simp only at k1 k2 k3 k4 ⊢
    have hbm:B.getD c 0=0∨B.getD c 0=1:=by
     rw[List.getD_eq_getElem?_getD,List.getElem?_eq_getElem (by omega)]
     exact hB _ (List.getElem_mem _)
    have ht:B.take (c+1)=B.take c++[B.getD c 0]:=by
     rw[List.take_add_one,List.getElem?_eq_getElem (by omega),List.getD_eq_getElem?_getD,List.getElem?_eq_getElem (by omega)];rfl
    generalize B.getD c 0=b at *
    have hR:evR ⟨la,(ru:Int),(am:Int)*(1 - 2*b)⟩=true:=by
     refine decide_eq_true ⟨⟨by simp only;omega,by simp only;omega⟩,?_⟩
     simp only
     rcases hbm with rfl|rfl<;>omega
    refine⟨hR,by omega,?_⟩
    have ha:mE ((am:Int)*(1 - 2*b))=am:=by unfold mE;rcases hbm with rfl|rfl<;>(split<;>omega)
    have hsg:K7 ((am:Int)*(1 - 2*b))=[bM b]:=by
     unfold K7
     rcases hbm with rfl|rfl
     ·rw[if_neg (by omega)];rfl
     ·rw[if_pos (by omega)];rfl
    unfold qM
    rw[if_pos hR]
    simp only
    rw[ha,if_pos (by simpa using k2),hsg,←k1,ht,List.map_append]
    rfl
end Rn
namespace Rn
open Go Bt Tc Bl
attribute [local irreducible] evX qM nB cH
theorem Ap:∀(f:Nat) (B:List Int) (a:Nat),(∀b∈B,b=0∨b=1)→(eu f B (a:Int)).2.1=0 →
  (eu f B (a:Int)).1≠[]∧(eu f B (a:Int)).2.2≤B.length∧(B.take (eu f B (a:Int)).2.2).map bM=(eu f B (a:Int)).1.flatMap qM∧∀out,(sV (eu f B (a:Int)).1 a out).isSome=true
 |0,B,a,_,h=>by simp[eu]at h
 |f+1,B,a,hB,h=>by
  rw[eu]at h ⊢
  by_cases h0:(evX B).2.1≠0
  ·rw[if_pos h0]at h;exact absurd h h0
  ·rw[if_neg h0]at h ⊢
   have h00:(evX B).2.1=0:=by simpa using h0
   obtain⟨o1,o2,o3⟩:=JI B hB h00
   have hb:=Hp o1
   by_cases h1:64<(a:Int)+((evX B).1.run+1)
   ·rw[if_pos h1]at h;cases h
   ·rw[if_neg h1]at h ⊢
    by_cases h2:(evX B).1.last=true
    ·rw[if_pos h2]at h ⊢
     refine⟨by simp,o2,by simpa using o3,fun out=>?_⟩
     rw[rJ,if_pos ⟨o1,by rw[h2];rfl,by omega⟩,Ad];rfl
    ·rw[if_neg h2]at h ⊢
     have ea:(a:Int)+((evX B).1.run+1)=((a+(evX B).1.run.toNat+1:Nat):Int):=by omega
     rw[ea]at h ⊢
     have ih:=Ap f (B.drop (evX B).2.2) (a+(evX B).1.run.toNat+1) (fun b hb=>hB b (List.mem_of_mem_drop hb))
     generalize eu f (B.drop (evX B).2.2) ((a+(evX B).1.run.toNat+1:Nat):Int)=y at *
     by_cases h3:y.2.1≠0
     ·rw[if_pos h3]at h;exact absurd h h3
     ·rw[if_neg h3]at h ⊢
      obtain⟨i1,i2,i3,i4⟩:=ih (by simpa using h3)
      rw[List.length_drop]at i2
      refine⟨by simp,by simp only;omega,?_,fun out=>?_⟩
      ·simp only
       rw[List.take_add,List.map_append,o3,i3];rfl
      ·simp only
       have he:(evX B).1.last=y.1.isEmpty:=by
        cases hy:y.1 with
        |nil=>exact absurd hy i1
        |cons _ _=>simpa using h2
       rw[rJ,if_pos ⟨o1,he,by omega⟩]
       exact i4 _
theorem JL (intra:Bool) (B:List Int) (hB:∀b∈B,b=0∨b=1) (h:(dc0 intra B).2.1=0):JM intra (dc0 intra B).1=true∧(dc0 intra B).2.2≤B.length∧(B.take (dc0 intra B).2.2).map bM=Ay intra (dc0 intra B).1:=by
 unfold dc0 at h ⊢
 cases intra with
 |false=>simp[JM,Ay]
 |true =>
  simp only[if_true]at h ⊢
  unfold dcX at h ⊢
  by_cases h8:B.length<8
  ·rw[if_pos h8]at h;cases h
  ·rw[if_neg h8]at h ⊢
   have h01:∀b∈B.take 8,b=0∨b=1:=fun b hb=>hB b (List.mem_of_mem_take hb)
   have hl:(B.take 8).length=8:=by rw[List.length_take];omega
   have hd:=tX _ h01
   have hb:=jd 8 _ hl h01
   rw[hl]at hd
   generalize nB (B.take 8)=v at *
   by_cases h0:v=0∨v=128
   ·rw[if_pos h0]at h;cases h
   ·rw[if_neg h0]at h ⊢
    by_cases h1:v=255
    ·rw[if_pos h1]
     subst h1
     exact⟨rfl,by simp only;omega,by simpa[Ay]using hd.symm⟩
    ·rw[if_neg h1]
     refine⟨decide_eq_true (by simp only;omega),by simp only;omega,?_⟩
     unfold Ay
     rw[if_pos rfl,if_neg (by simp only;omega)]
     exact hd.symm
theorem J2 (intra coded:Bool) (B:List Int) (hB:∀b∈B,b=0∨b=1) (h:(blX intra coded B).2.2.1=0) :
  gV intra (blX intra coded B).1 (blX intra coded B).2.1=true∧(blX intra coded B).2.2.2≤B.length∧(B.take (blX intra coded B).2.2.2).map bM=lL intra (blX intra coded B).1 (blX intra coded B).2.1∧coded=!(blX intra coded B).2.1.isEmpty:=by
 unfold blX at h ⊢
 by_cases h0:(dc0 intra B).2.1≠0
 ·rw[if_pos h0]at h;exact absurd h h0
 ·rw[if_neg h0]at h ⊢
  obtain⟨d1,d2,d3⟩:=JL intra B hB (by simpa using h0)
  generalize dc0 intra B=d at *
  cases coded with
  |false =>
   simp only[Bool.false_eq_true,if_false]at h ⊢
   refine⟨?_,d2,?_,rfl⟩
   ·unfold gV
    rw[d1,show lev [] (frm intra)=some z64 from rfl];rfl
   ·unfold lL;rw[d3];simp
  |true =>
   simp only[if_true]at h ⊢
   have ho:=Ap 66 (B.drop d.2.2) (frm intra) (fun b hb=>hB b (List.mem_of_mem_drop hb))
   generalize eu 66 (B.drop d.2.2) (frm intra:Nat)=y at *
   by_cases h1:y.2.1≠0
   ·rw[if_pos h1]at h;exact absurd h h1
   ·rw[if_neg h1]at h ⊢
    obtain⟨o1,o2,o3,o4⟩:=ho (by simpa using h1)
    rw[List.length_drop]at o2
    simp only
    refine⟨?_,by omega,?_,?_⟩
    ·unfold gV lev
     rw[o4,d1];rfl
    ·unfold lL
     rw[List.take_add,List.map_append,d3,o3]
    ·cases hy:y.1 with
     |nil=>exact absurd hy o1
     |cons _ _=>rfl
end Rn
end Go.Proofs.YtbpednchkndocaaGreatDoor.Av
