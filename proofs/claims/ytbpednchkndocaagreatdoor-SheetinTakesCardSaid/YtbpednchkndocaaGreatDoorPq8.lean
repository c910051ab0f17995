/- Events are read: the document's Take. Blocks are read: the document's Take. -/
import Derived.Test.YtbpednchkndocaaGreatDoorPq2
import Derived.Test.YtbpednchkndocaaGreatDoorPn5
import Derived.Test.YtbpednchkndocaaGreatDoorPq3
set_option linter.unusedVariables false
set_option linter.unusedSimpArgs false
set_option maxRecDepth 100000
set_option maxHeartbeats 64000000
namespace Go.Proofs.YtbpednchkndocaaGreatDoor.Av
namespace Tc
open Go Bt
attribute [local irreducible] aa ACalls av ai aN
variable {gl:List (Nat×List D)}
theorem J0 (s:List UInt8) (q:Nat) (h:q+15≤8*s.length):nB ((af s q).take 15)=(cz s (q:Int)*64+nB ((af s (q+1)).take 6))*256+nB ((af s (q+7)).take 8):=by
 have e:(af s q).take 15=[cz s (q:Int)]++((af s (q+1)).take 6++(af s (q+7)).take 8):=by
  rw[eG s q (by omega),List.take_succ_cons,show 14=6+8 from rfl,List.take_add,bw]
  rfl
 have l6:((af s (q+1)).take 6).length=6:=take_len s (q+1) 6 (by omega)
 have l8:((af s (q+7)).take 8).length=8:=take_len s (q+7) 8 (by omega)
 have n1:nB [cz s (q:Int)]=cz s (q:Int):=by simp[nB]
 rw[e,lQ,lQ,List.length_append,l6,l8,n1]
 omega
theorem M3:tD (jE 0)=[.str [48,48,48,48,48,49,49]]:=rfl
theorem NI:eD (jE 0)=[En false 0 0]:=rfl
theorem EZ (ru:Nat) (h:ru≤64):(jE ru).length≤103:=KT ⟨ru,by omega⟩
theorem Br (la:Bool) (ru:Nat) (h:ru≤63):(fV la (ru:Int)).length≤12:=KH la ⟨ru,by omega⟩
def kO (ru k:Nat):List TE:=jE ru++(if 1≤k then grp false ru else [])++(if 2≤k then grp true ru else [])
theorem Az (ru:Nat):kO ru 0=jE ru:=by simp[kO]
theorem KV (ru:Nat):kO ru 2=jE (ru+1):=by rw[Dz];simp[kO]
theorem KU (ru k:Nat) (h:k<2):kO ru (k+1)=kO ru k++grp (decide ((k:Int)=1)) ru:=by
 rcases (show k=0∨k=1 by omega)with rfl|rfl<;>simp[kO]
theorem E0 (ru k:Nat) (h:ru≤63):(kO ru k).length≤127:=by
 have h1:=EZ ru (by omega)
 have h2:=xG false ru
 have h3:=xG true ru
 have h4:=Br false ru h
 have h5:=Br true ru h
 unfold kO
 simp only[List.length_append]
 split<;>split<;>(try simp only[List.length_nil])<;>omega
attribute [local irreducible] kO aS iY yB zU fV j6 bL grp jE tD eD qa evX t5
theorem FM (s:List UInt8) (p:Nat) (hs:s.length≤100000) (hp:p≤8*s.length):ACalls (cxg gl) 206 [S (aC s),I p] []
  (fun r H=>r = .aX [.d (evD (evX (af s p)).1),I ((p+(evX (af s p)).2.2:Nat):Int),I (evX (af s p)).2.1]∧H=[]):=by
 refine ACalls.en Tryz.func206 Tryz.ntmps206 ?_
 repeat (first|refine aa.mW ?_|refine aa.ll 7 ?_|refine aa.ll 8 ?_|refine aa.dG ?_)
 refine aa.weak (env':=[(9,I ((0:Nat):Int)),(8, .own 3 (eD (jE 0)) 2),(7, .own 1 (tD (jE 0)) 1),(4, .ptr 0 0),(1,I p),(0,S (aC s))]) ⟨rfl,congrArg (AV.own 3 · 2) NI.symm,congrArg (AV.own 1 · 1) M3.symm,rfl,rfl,rfl,trivial⟩ ?_
 refine aa.loop (fun m env H=>∃ru:Nat,m=64 - ru∧ru≤64∧env=[(9,I (ru:Int)),(8, .own 3 (eD (jE ru)) 2),(7, .own 1 (tD (jE ru)) 1),(4, .ptr 0 0),(1,I p),(0,S (aC s))] ∧
  H=[.cells [B false,I 0,I 0], .front 9 1 (tD (jE ru)).length, .front 235 3 (eD (jE ru)).length]) 64
  ⟨0,rfl,by omega,rfl,by rw[M3,NI]⟩ ?_
 rintro m env H ⟨ru,rfl,hru,rfl,rfl⟩
 rcases Nat.lt_or_ge ru 64 with hr|hr
 ·repeat (first|refine aa.dG ?_)
  refine aa.weak (env':=[(10,I ((0:Nat):Int)),(9,I (ru:Int)),(8, .own 3 (eD (kO ru 0)) 2),(7, .own 1 (tD (kO ru 0)) 1),(4, .ptr 0 0),(1,I p),(0,S (aC s))]) ⟨rfl,rfl,by rw[Az];rfl,by rw[Az];rfl,rfl,rfl,rfl,trivial⟩ ?_
  refine aa.loop (fun m env H=>∃k:Nat,m=2 - k∧k≤2∧env=[(10,I (k:Int)),(9,I (ru:Int)),(8, .own 3 (eD (kO ru k)) 2),(7, .own 1 (tD (kO ru k)) 1),(4, .ptr 0 0),(1,I p),(0,S (aC s))] ∧
   H=[.cells [B false,I 0,I 0], .front 9 1 (tD (kO ru k)).length, .front 235 3 (eD (kO ru k)).length]) 2
   ⟨0,rfl,by omega,rfl,by rw[Az]⟩ ?_
  rintro m env H ⟨k,rfl,hk,rfl,rfl⟩
  rcases Nat.lt_or_ge k 2 with hk2|hk2
  ·have hT:=E0 ru k (by omega)
   have hs1:=KU ru k hk2
   have rc:=IQ (gl:=gl) (decide ((k:Int)=1)) ru (by omega)
   have gt:=GN (decide ((k:Int)=1)) ru
   have gl':=xG (decide ((k:Int)=1)) ru
   generalize kO ru k=T at *
   rcases rc with⟨hW,rc⟩|rc
   ·have e0:T++grp (decide ((k:Int)=1)) ru=T:=by
     rw[hW]at gl'
     rw[List.length_eq_zero_iff.1 gl',List.append_nil]
    rw[e0]at hs1
    repeat' (first|refine aa.bN true ?_|refine aa.ae (rc) ?_|apply aa.bO|intro _|(apply aa.gK;rfl)|refine aa.aR ?_)
    exact aa.iI 3 [(10,I ((k+1:Nat):Int)),(9,I (ru:Int)),(8, .own 3 (eD (kO ru (k+1))) 2),(7, .own 1 (tD (kO ru (k+1))) 1),(4, .ptr 0 0),(1,I p),(0,S (aC s))] (2 - (k+1)) (by omega) rfl rfl rfl rfl
     ⟨rfl,rfl,by rw[hs1];rfl,by rw[hs1];rfl,rfl,rfl,rfl,trivial⟩ ⟨k+1,rfl,by omega,rfl,by first|(rw[hs1];done)|(rw[hs1];rfl)⟩
   ·have hl:=fG (fV (decide ((k:Int)=1)) ru)
    have gg:=jS (fV (decide ((k:Int)=1)) ru)
    generalize hWe:fV (decide ((k:Int)=1)) (ru:Int)=W at *
    repeat (first|refine aa.ah [] ( rc) ?_|refine aa.dG ?_)
    refine aa.weak (env':=[(12,I ((0:Nat):Int)),(11, .own 1 (aS W) 3),(10,I (k:Int)),(9,I (ru:Int)),(8, .own 3 (eD (T++(grp (decide ((k:Int)=1)) ru).take 0)) 2),(7, .own 1 (tD (T++(grp (decide ((k:Int)=1)) ru).take 0)) 1),(4, .ptr 0 0),(1,I p),(0,S (aC s))])
     ⟨rfl,rfl,rfl,rfl,by rw[List.take_zero,List.append_nil];rfl,by rw[List.take_zero,List.append_nil];rfl,rfl,rfl,rfl,trivial⟩ ?_
    refine aa.loop (fun m env H=>∃i:Nat,m=W.length - i∧i≤W.length∧env=[(12,I (i:Int)),(11, .own 1 (aS W) 3),(10,I (k:Int)),(9,I (ru:Int)),(8, .own 3 (eD (T++(grp (decide ((k:Int)=1)) ru).take i)) 2),(7, .own 1 (tD (T++(grp (decide ((k:Int)=1)) ru).take i)) 1),(4, .ptr 0 0),(1,I p),(0,S (aC s))] ∧
     H=[.cells [B false,I 0,I 0], .front 9 1 (tD (T++(grp (decide ((k:Int)=1)) ru).take i)).length, .front 235 3 (eD (T++(grp (decide ((k:Int)=1)) ru).take i)).length, .front 9 1 (aS W).length]) W.length
     ⟨0,rfl,by omega,rfl,by rw[List.take_zero,List.append_nil]⟩ ?_
    rintro m env H ⟨i,rfl,hi,rfl,rfl⟩
    rcases Nat.lt_or_ge i W.length with hil|hig
    ·have hx:W[i]?=some (W.getD i []):=by rw[List.getD_eq_getElem?_getD,List.getElem?_eq_getElem hil];rfl
     have gt1:=gt i _ hx
     have g1:=gg i hil
     generalize W.getD i []=w at *
     have hWl:W.length≤12:=by rw[←hWe];exact Br _ ru (by omega)
     have hTl:(T++(grp (decide ((k:Int)=1)) ru).take i).length≤10000:=by
      rw[List.length_append,List.length_take];omega
     have hTs:T++(grp (decide ((k:Int)=1)) ru).take (i+1)=(T++(grp (decide ((k:Int)=1)) ru).take i)++[(w,decide ((k:Int)=1),ru,i+1)]:=by rw[gt1,List.append_assoc]
     generalize T++(grp (decide ((k:Int)=1)) ru).take i=T1 at *
     have h1:=KW T1
     have h2:=Hm T1
     have a1:=KX T1 (w,decide ((k:Int)=1),ru,i+1)
     have a2:=Mg T1 (w,decide ((k:Int)=1),ru,i+1)
     repeat' (first|(apply aa.append;(iterate 11 rfl);(first|rfl|(simp only[List.length_append,List.length_map,List.length_cons,List.length_nil];omega));(first|(simp only[List.length_append,List.length_map,List.length_cons,List.length_nil];omega)|(rw[hl];omega)|(rw[h1];omega)|(rw[h2];omega));simp only[List.set_cons_zero,List.set_cons_succ])|(apply aa.q true;rfl;rfl;rfl;rfl;first|exact True.intro|omega|(simp only[tn,Int.reduceToNat];omega)|(rw[hl];omega)|(rw[h1];omega)|(rw[h2];omega))|(apply aa.fO;(iterate 7 rfl);exact g1)|intro _|(apply aa.gK;rfl)|refine aa.aR ?_)
     all_goals first
      |exact aa.round [(12,I ((i+1:Nat):Int)),(11, .own 1 (aS W) 3),(10,I (k:Int)),(9,I (ru:Int)),(8, .own 3 (eD (T++(grp (decide ((k:Int)=1)) ru).take (i+1))) 2),(7, .own 1 (tD (T++(grp (decide ((k:Int)=1)) ru).take (i+1))) 1),(4, .ptr 0 0),(1,I p),(0,S (aC s))] (W.length - (i+1)) (by omega)
        ⟨rfl,rfl,rfl,rfl,by rw[hTs,a2];rfl,by rw[hTs,a1];rfl,rfl,rfl,rfl,trivial⟩ ⟨i+1,rfl,by omega,rfl,by rw[hTs,a1,a2];rfl⟩
      |omega
    ·obtain rfl:i=W.length:=by omega
     have e1:(grp (decide ((k:Int)=1)) ru).take W.length=grp (decide ((k:Int)=1)) ru:=List.take_of_length_le (by omega)
     rw[e1,←hs1]
     repeat' (first|(apply aa.q true;rfl;rfl;rfl;rfl;first|exact True.intro|omega|(simp only[tn,Int.reduceToNat];omega)|(rw[hl];omega))|intro _|(apply aa.gK;rfl)|refine aa.aR ?_)
     all_goals first
      |exact aa.iI 3 [(10,I ((k+1:Nat):Int)),(9,I (ru:Int)),(8, .own 3 (eD (kO ru (k+1))) 2),(7, .own 1 (tD (kO ru (k+1))) 1),(4, .ptr 0 0),(1,I p),(0,S (aC s))] (2 - (k+1)) (by omega) rfl rfl rfl rfl
        ⟨rfl,rfl,rfl,rfl,rfl,rfl,rfl,trivial⟩ ⟨k+1,rfl,by omega,rfl,rfl⟩
      |omega
  ·obtain rfl:k=2:=by omega
   have e2:=KV ru
   repeat' (first|refine aa.bN true ?_|intro _|(apply aa.gK;rfl)|refine aa.aR ?_)
   exact aa.round [(9,I ((ru+1:Nat):Int)),(8, .own 3 (eD (jE (ru+1))) 2),(7, .own 1 (tD (jE (ru+1))) 1),(4, .ptr 0 0),(1,I p),(0,S (aC s))] (64 - (ru+1)) (by omega)
    ⟨rfl,by rw[←e2];rfl,by rw[←e2];rfl,rfl,rfl,rfl,trivial⟩ ⟨ru+1,rfl,by omega,rfl,by rw[←e2]⟩
 ·obtain rfl:ru=64:=by omega
  have hr:=uF
  have rt:=rZ (gl:=gl) cH (aC s) p (by omega) (by rw[bX];omega) (by omega)
  rw[qB cH _ p xO (by rw[bX];omega),ik,←Em,←tN]at rt
  have hu:=jR cH ((af s p).map aY) []
  have hb:=Mv.ib cH ((af s p).map aY) []
  have hB:=bR s p
  have hBl:=bz s p
  have hag:=iE 13 0 1 [] gu (af s p) hB
  have hesc:=zT (af s p) 0 1
  have hlen:=bX s
  unfold evX
  generalize hR:bV cH ((af s p).map aY) []=R at *
  obtain⟨i,e,c⟩:=R
  simp only[List.length_map,List.length_nil]at hu hb hag ⊢
  unfold nX at rt
  by_cases he:e=0
  ·subst he
   have hu:=hu rfl
   have hb:=hb rfl
   simp only[if_true]at rt
   obtain⟨n,rfl⟩:∃n:Nat,i=n:=⟨i.toNat,by omega⟩
   replace rt:ACalls (cxg gl) 202 [.d (.sl 1 (tD (jE 64))),S (aC s),I p] [] (fun r H=>r = .aX [I (n:Int),I ((p+c:Nat):Int),I 0]∧H=[]):=rt
   obtain⟨hc,i2,hi2,hok⟩:=hag.2 rfl
   obtain rfl:n=i2:=by omega
   rw[if_neg (show ¬(0:Int)≠0 by omega)]
   by_cases hn:n=0
   ·subst hn
    rw[if_pos (show ((0:Nat):Int)=0 from rfl)]
    have hx:(jf (af s p) 0 1).1 = -1:=by
     unfold okE at hok
     rw[if_pos rfl]at hok
     exact of_decide_eq_true hok
    have hc7:=hesc hx hag.1
    obtain rfl:c=7:=by omega
    rw[bw]
    by_cases h15:(af s p).length - 7<15
    ·have ex:kz (nB ((af s (p+7)).take 15)) ((af s p).length - 7)=(ev0,2,0):=by unfold kz;rw[if_pos h15]
     rw[ex]
     repeat' (first|(apply aa.q true;rfl;rfl;rfl;rfl;first|exact True.intro|omega|(simp only[tn,Int.reduceToNat];omega)|(rw[hlen];omega))|refine aa.dM ( rt) ?_|intro _|(apply aa.gK;rfl)|refine aa.aR ?_)
     all_goals first|exact⟨rfl,rfl⟩|omega
    ·have ex:kz (nB ((af s (p+7)).take 15)) ((af s p).length - 7)=if je (dz (nB ((af s (p+7)).take 15)))=true then (ev0,7,0) else (dz (nB ((af s (p+7)).take 15)),0,22):=by unfold kz;rw[if_neg h15]
     rw[ex,J0 s (p+7) (by omega)]
     have b1:=xX s (p+7) (by omega)
     have b0:=iQ s ((p+7:Nat):Int)
     have s6:((aC s).take (((p+7:Nat):Int)+7).toNat).drop (((p+7:Nat):Int)+1).toNat=((af s (p+7+1)).take 6).map aY:=by
      rw[show (((p+7:Nat):Int)+7).toNat=p+7+1+6 by omega,show (((p+7:Nat):Int)+1).toNat=p+7+1 by omega]
      exact lI s (p+7+1) 6
     have s8:((aC s).take (((p+7:Nat):Int)+15).toNat).drop (((p+7:Nat):Int)+7).toNat=((af s (p+7+7)).take 8).map aY:=by
      rw[show (((p+7:Nat):Int)+15).toNat=p+7+7+8 by omega,show (((p+7:Nat):Int)+7).toNat=p+7+7 by omega]
      exact lI s (p+7+7) 8
     have l6:((af s (p+7+1)).take 6).length=6:=take_len s _ 6 (by omega)
     have l8:((af s (p+7+7)).take 8).length=8:=take_len s _ 8 (by omega)
     have o6:=cT s (p+7+1) 6
     have o8:=cT s (p+7+7) 8
     have n6:=kZ (gl:=gl) (((af s (p+7+1)).take 6).map aY) (by rw[List.length_map];omega) (all_map _ o6)
     have n8:=kZ (gl:=gl) (((af s (p+7+7)).take 8).map aY) (by rw[List.length_map];omega) (all_map _ o8)
     rw[jy _ o6,←s6]at n6
     rw[jy _ o8,←s8]at n8
     have m6:=iB 6 _ l6 o6
     have m8:=iB 8 _ l8 o8
     generalize nB ((af s (p+7+1)).take 6)=v6 at *
     generalize nB ((af s (p+7+7)).take 8)=v8 at *
     generalize cz s ((p+7:Nat):Int)=v1 at *
     rw[Hg v1 v6 v8 (by omega) (by omega) (by omega)]
     rw[show 48+v1=bt (aC s) ((p+7:Nat):Int).toNat by rw[Int.toNat_natCast];exact b1.symm]
     have hle : -128≤(if 127<v8 then v8 - 256 else v8)∧(if 127<v8 then v8 - 256 else v8)≤127:=by split<;>omega
     generalize hlv:(if 127<v8 then v8 - 256 else v8)=le at *
     have rr:=yL (gl:=gl) ⟨decide (bt (aC s) ((p+7:Nat):Int).toNat=49),v6,le⟩
     have am:=HY (gl:=gl) le (by omega)
     have hpl:=fun h=>vT (e:=⟨decide (bt (aC s) ((p+7:Nat):Int).toNat=49),v6,le⟩) h
     unfold je
     cases hR:evR ⟨decide (bt (aC s) ((p+7:Nat):Int).toNat=49),v6,le⟩with
     |false =>
      rw[hR]at rr
      rw[if_pos (by simp)]
      by_cases h127:127<v8
      all_goals
       first|rw[if_pos h127]at hlv|rw[if_neg h127]at hlv
       subst hlv
       repeat' (first|(apply aa.bE [0,1,2,3,4,5,6,7,8,9,10,11,12,13,14,15,16,17,18,19,20] 21 18;rfl)|(apply av.aK;rfl;(apply aA.q true;rfl;rfl;first|exact True.intro|omega|(rw[hlen];omega));exact fun _ _ _ h=>h;(iterate 6 rfl);kernel_rfl;kernel_rfl)|(apply av.load;rfl;rfl;(first|exact True.intro|omega|(rw[hlen];omega));exact fun _ _ _ h=>h;(iterate 6 rfl);kernel_rfl;kernel_rfl)|(apply av.go)|refine ai.bg ?_|refine ai.dE ?_|(apply ai.aK;rfl;(apply aA.q true;rfl;rfl;first|exact True.intro|omega|(rw[hlen];omega));exact fun _ _ _ h=>h;(iterate 6 rfl);kernel_rfl;kernel_rfl)|refine ai.aj (n6) ?_|refine ai.aj (n8) ?_|refine ai.aj (rr) ?_|refine ai.aj ( rt) ?_|(apply ai.quiet;rfl;(apply cf.q true;rfl;(first|exact True.intro|omega|(rw[hlen];omega)));rfl;rfl;rfl;rfl;kernel_rfl;rfl)|refine ai.cg ?_|refine ai.xe ?_|(apply ai.gJ;rfl;kernel_rfl)|(apply ai.CL;rfl;kernel_rfl)|refine aN.cg ?_|refine aN.dE ?_|(apply aN.quiet;rfl;(apply cf.q true;rfl;(first|exact True.intro|omega|(rw[hlen];omega)));rfl;rfl;rfl;rfl)|refine aN.aj (n6) ?_|refine aN.aj (n8) ?_|refine aN.aj (rr) ?_|refine aN.aj ( rt) ?_|(apply ai.back)|(exact aa.bP)|(apply aa.bq;(repeat' (first|exact aO.nil|(apply aO.cons;rfl)));rfl)|(apply aa.bE [0,1,2,3,4,5,6,7,8,9,10,11,12,13] 14 14;rfl)|(apply aa.q true;rfl;rfl;rfl;rfl;first|exact True.intro|omega|(simp only[tn,Int.reduceToNat];omega)|(rw[hlen];omega))|refine aa.dM ( rt) ?_|refine aa.ae (n6) ?_|refine aa.ae (n8) ?_|refine aa.ae (rr) ?_|intro _|(apply aa.gK;rfl)|refine aa.aR ?_)
       all_goals first|exact⟨rfl,rfl⟩|omega
     |true =>
      rw[hR]at rr
      have hpl2:=hpl hR
      simp only at hpl2
      have hb:(0≤v6∧v6≤63)∧le≠0 ∧ -127≤le∧le≤127:=of_decide_eq_true hR
      have ab:=Dn hb.2
      have hs:=NC (gl:=gl) (decide (bt (aC s) ((p+7:Nat):Int).toNat=49)) v6 (lw le) hb.1.1 ab.1 (by omega)
      have hhl:=GL (decide (bt (aC s) ((p+7:Nat):Int).toNat=49)) v6 (lw le) hb.1
      have e22:((p+22:Nat):Int)=((p+7:Nat):Int)+15:=by omega
      by_cases hw:j6 (decide (bt (aC s) ((p+7:Nat):Int).toNat=49)) v6 (lw le)=[]
      ·rw[decide_eq_true hw]at hpl2
       have hp0:decide (0≤cG (decide (bt (aC s) ((p+7:Nat):Int).toNat=49)) v6 (max le (-le)))=false:=by simpa using hpl2.symm
       rw[hp0,if_neg (by simp)]
       rw[hw]at hs
       simp only
       rw[e22]
       by_cases h127:127<v8
       all_goals
        first|rw[if_pos h127]at hlv|rw[if_neg h127]at hlv
        subst hlv
        repeat' (first|(apply aa.bE [0,1,2,3,4,5,6,7,8,9,10,11,12,13,14,15,16,17,18,19,20] 21 18;rfl)|(apply av.aK;rfl;(apply aA.q true;rfl;rfl;first|exact True.intro|omega|(rw[hlen];omega));exact fun _ _ _ h=>h;(iterate 6 rfl);kernel_rfl;kernel_rfl)|(apply av.load;rfl;rfl;(first|exact True.intro|omega|(rw[hlen];omega));exact fun _ _ _ h=>h;(iterate 6 rfl);kernel_rfl;kernel_rfl)|(apply av.go)|refine ai.bg ?_|refine ai.dE ?_|(apply ai.aK;rfl;(apply aA.q true;rfl;rfl;first|exact True.intro|omega|(rw[hlen];omega));exact fun _ _ _ h=>h;(iterate 6 rfl);kernel_rfl;kernel_rfl)|refine ai.aj (n6) ?_|refine ai.aj (n8) ?_|refine ai.aj (rr) ?_|refine ai.aj (am) ?_|refine ai.aj (hs) ?_|refine ai.aj ( rt) ?_|(apply ai.quiet;rfl;(apply cf.q true;rfl;(first|exact True.intro|omega|(rw[hlen];omega)));rfl;rfl;rfl;rfl;kernel_rfl;rfl)|refine ai.cg ?_|refine ai.xe ?_|(apply ai.gJ;rfl;kernel_rfl)|(apply ai.CL;rfl;kernel_rfl)|refine aN.cg ?_|refine aN.dE ?_|(apply aN.quiet;rfl;(apply cf.q true;rfl;(first|exact True.intro|omega|(rw[hlen];omega)));rfl;rfl;rfl;rfl)|refine aN.aj (n6) ?_|refine aN.aj (n8) ?_|refine aN.aj (rr) ?_|refine aN.aj (am) ?_|refine aN.aj (hs) ?_|refine aN.aj ( rt) ?_|(apply ai.back)|(exact aa.bP)|(apply aa.bq;(repeat' (first|exact aO.nil|(apply aO.cons;rfl)));rfl)|(apply aa.bE [0,1,2,3,4,5,6,7,8,9,10,11,12,13] 14 14;rfl)|(apply aa.q true;rfl;rfl;rfl;rfl;first|exact True.intro|omega|(simp only[tn,Int.reduceToNat];omega)|(rw[hlen];omega))|refine aa.dM ( rt) ?_|refine aa.ae (n6) ?_|refine aa.ae (n8) ?_|refine aa.ae (rr) ?_|refine aa.ae (am) ?_|refine aa.ae (hs) ?_|intro _|(apply aa.gK;rfl)|refine aa.aR ?_)
        all_goals first|exact⟨rfl,rfl⟩|omega
      ·rw[decide_eq_false hw]at hpl2
       have hp0:decide (0≤cG (decide (bt (aC s) ((p+7:Nat):Int).toNat=49)) v6 (max le (-le)))=true:=by simpa using hpl2.symm
       rw[hp0,if_pos (by simp)]
       generalize j6 (decide (bt (aC s) ((p+7:Nat):Int).toNat=49)) v6 (lw le)=W at *
       by_cases h127:127<v8
       all_goals
        first|rw[if_pos h127]at hlv|rw[if_neg h127]at hlv
        subst hlv
        repeat' (first|(apply aa.bE [0,1,2,3,4,5,6,7,8,9,10,11,12,13,14,15,16,17,18,19,20] 21 18;rfl)|(apply av.aK;rfl;(apply aA.q true;rfl;rfl;first|exact True.intro|omega|(rw[hlen];omega));exact fun _ _ _ h=>h;(iterate 6 rfl);kernel_rfl;kernel_rfl)|(apply av.load;rfl;rfl;(first|exact True.intro|omega|(rw[hlen];omega));exact fun _ _ _ h=>h;(iterate 6 rfl);kernel_rfl;kernel_rfl)|(apply av.go)|refine ai.bg ?_|refine ai.dE ?_|(apply ai.aK;rfl;(apply aA.q true;rfl;rfl;first|exact True.intro|omega|(rw[hlen];omega));exact fun _ _ _ h=>h;(iterate 6 rfl);kernel_rfl;kernel_rfl)|refine ai.aj (n6) ?_|refine ai.aj (n8) ?_|refine ai.aj (rr) ?_|refine ai.aj (am) ?_|refine ai.aj (hs) ?_|refine ai.aj ( rt) ?_|(apply ai.quiet;rfl;(apply cf.q true;rfl;(first|exact True.intro|omega|(rw[hlen];omega)));rfl;rfl;rfl;rfl;kernel_rfl;rfl)|refine ai.cg ?_|refine ai.xe ?_|(apply ai.gJ;rfl;kernel_rfl)|(apply ai.CL;rfl;kernel_rfl)|refine aN.cg ?_|refine aN.dE ?_|(apply aN.quiet;rfl;(apply cf.q true;rfl;(first|exact True.intro|omega|(rw[hlen];omega)));rfl;rfl;rfl;rfl)|refine aN.aj (n6) ?_|refine aN.aj (n8) ?_|refine aN.aj (rr) ?_|refine aN.aj (am) ?_|refine aN.aj (hs) ?_|refine aN.aj ( rt) ?_|(apply ai.back)|(exact aa.bP)|(apply aa.bq;(repeat' (first|exact aO.nil|(apply aO.cons;rfl)));rfl)|(apply aa.bE [0,1,2,3,4,5,6,7,8,9,10,11,12,13] 14 14;rfl)|(apply aa.q true;rfl;rfl;rfl;rfl;first|exact True.intro|omega|(simp only[tn,Int.reduceToNat];omega)|(rw[hlen];omega))|refine aa.dM ( rt) ?_|refine aa.ae (n6) ?_|refine aa.ae (n8) ?_|refine aa.ae (rr) ?_|refine aa.ae (am) ?_|refine aa.ae (hs) ?_|(apply aa.cBT;rfl;first|(simp only[bT];omega)|((simp[hw];done)))|intro _|(apply aa.gK;rfl)|refine aa.aR ?_)
        all_goals first|exact⟨rfl,rfl⟩|omega|(exfalso;simp_all;done)
   ·have hn3:n<103:=by have:=hb.2;rw[hr]at this;omega
    have hok2:=hok
    unfold okE at hok2
    rw[if_neg hn]at hok2
    simp only[Bool.and_eq_true,decide_eq_true_eq]at hok2
    obtain⟨⟨⟨⟨k0,k1⟩,k2⟩,k3⟩,k4⟩:=hok2
    have hmb:=gm (iG n).1 (iG n).2.1
    have hev:=Hf n hn3
    rw[←tN]at hev
    rw[if_neg (by omega),Int.toNat_natCast]
    generalize iG n=ea at *
    obtain⟨la,ru,am⟩:=ea
    simp only at k1 k2 k3 k4 hmb hev ⊢
    rw[hBl]
    have hcb:p+c≤8*s.length:=by omega
    have heL:(eD (jE 64)).length=103:=by rw[Hm,tN];exact vY
    have hev2:=fun (ti:TI) (ha:ti.agg=true) (hs:ti.size=3)=>(show gI ti ((eD (jE 64)).getD ((n:Nat):Int).toNat .top).cells 0=some (En la ru am) by rw[hev];unfold gI;rw[ha,hs];rfl)
    by_cases hlast:8*s.length - p≤c
    ·rw[if_pos hlast]
     repeat' (first|(apply aa.q true;rfl;rfl;rfl;rfl;first|exact True.intro|omega|(simp only[tn,Int.reduceToNat];omega)|(rw[hlen];omega)|(rw[heL];omega))|refine aa.dM ( rt) ?_|(apply aa.uq;(iterate 6 rfl);exact hev2 _ rfl rfl)|intro _|(apply aa.gK;rfl)|refine aa.aR ?_)
     all_goals first|exact⟨rfl,rfl⟩|omega
    ·rw[if_neg hlast,vU s p c (by omega)]
     have b1:bt (aC s) ((p+c:Nat):Int).toNat=48+cz s ((p+c:Nat):Int):=by rw[Int.toNat_natCast];exact xX s (p+c) (by omega)
     have b0:=iQ s ((p+c:Nat):Int)
     rcases (show cz s ((p+c:Nat):Int)=0∨cz s ((p+c:Nat):Int)=1 by omega)with h01|h01
     ·rw[h01]at b1 ⊢
      rw[show (am:Int)*(1 - 2*0)=am by omega]
      repeat' (first|(apply aa.q true;rfl;rfl;rfl;rfl;first|exact True.intro|omega|(simp only[tn,Int.reduceToNat];omega)|(rw[hlen];omega)|(rw[heL];omega))|refine aa.dM ( rt) ?_|(apply aa.uq;(iterate 6 rfl);exact hev2 _ rfl rfl)|intro _|(apply aa.gK;rfl)|refine aa.aR ?_)
      all_goals first|exact⟨rfl,rfl⟩|omega
     ·rw[h01]at b1 ⊢
      rw[show (am:Int)*(1 - 2*1) = -am by omega]
      repeat' (first|(apply aa.q true;rfl;rfl;rfl;rfl;first|exact True.intro|omega|(simp only[tn,Int.reduceToNat];omega)|(rw[hlen];omega)|(rw[heL];omega))|refine aa.dM ( rt) ?_|(apply aa.uq;(iterate 6 rfl);exact hev2 _ rfl rfl)|intro _|(apply aa.gK;rfl)|refine aa.aR ?_)
      all_goals first|exact⟨rfl,rfl⟩|omega
  ·rw[if_neg he]at rt
   rw[if_pos he]
   repeat' (first|refine aa.bN true ?_|refine aa.dM ( rt) ?_|intro _|(apply aa.gK;rfl)|refine aa.aR ?_)
   all_goals first|exact⟨rfl,rfl⟩|omega
end Tc
namespace Tc
open Go Bt Bl
attribute [local irreducible] aa ACalls
variable {gl:List (Nat×List D)}
theorem Md {f:Nat} {B:List Int} {a:Int} (h0:(evX B).2.1=0) (h1:¬64<a+((evX B).1.run+1)) (h2:(evX B).1.last=true):dC (f+1) B a=([(evX B).1],0,(evX B).2.2):=by
 rw[dC,if_neg (by simpa using h0),if_neg h1,if_pos h2]
theorem Mc {f:Nat} {B:List Int} {a:Int} (h0:(evX B).2.1=0) (h1:64<a+((evX B).1.run+1)):dC (f+1) B a=([],7,(evX B).2.2):=by
 rw[dC,if_neg (by simpa using h0),if_pos h1]
theorem Ma {f:Nat} {B:List Int} {a:Int} (h0:(evX B).2.1≠0):dC (f+1) B a=([],(evX B).2.1,0):=by
 rw[dC,if_pos h0]
attribute [local irreducible] evX af dC bB nB frm
theorem nH (s:List UInt8) (p:Nat) (intra coded:Bool) (hs:s.length≤100000) (hp:p≤8*s.length):ACalls (cxg gl) 137 [S (aC s),I p,B intra,B coded] []
  (fun r H=>r = .aX [I (blX intra coded (af s p)).1, .d (.sl 3 (bB (blX intra coded (af s p)).2.1)),I ((p+(blX intra coded (af s p)).2.2.2:Nat):Int),I (blX intra coded (af s p)).2.2.1]∧H=[]):=by
 have e00:bB []=[]:=by unfold bB;rfl
 have hBl:=bz s p
 have hlen:=bX s
 have rf:=IR (gl:=gl) intra
 have hfb:=GV intra
 have o8:=cT s p 8
 have s8:((aC s).take ((p:Int)+8).toNat).drop (p:Int).toNat=((af s p).take 8).map aY:=by
  rw[show ((p:Int)+8).toNat=p+8 by omega,Int.toNat_natCast]
  exact lI s p 8
 have n8:=kZ (gl:=gl) (((af s p).take 8).map aY) (by rw[List.length_map,List.length_take];omega) (all_map _ o8)
 rw[jy _ o8,←s8]at n8
 have h3:(intra=true∧8*s.length<p+8)∨(intra=true∧¬8*s.length<p+8∧(nB ((af s p).take 8)=0∨nB ((af s p).take 8)=128)) ∨
   ∃dc dn,dc0 intra (af s p)=(dc,0,dn)∧p+dn≤8*s.length∧((intra=false∧dc=0∧dn=0)∨(intra=true∧nB ((af s p).take 8)=255∧dc=128∧dn=8∧p+8≤8*s.length) ∨
    (intra=true∧nB ((af s p).take 8)≠0∧nB ((af s p).take 8)≠128∧nB ((af s p).take 8)≠255∧dc=nB ((af s p).take 8)∧dn=8∧p+8≤8*s.length)):=by
  cases intra with
  |false=>exact .inr (.inr ⟨0,0,rfl,by omega, .inl ⟨rfl,rfl,rfl⟩⟩)
  |true =>
   by_cases c1:8*s.length<p+8
   ·exact .inl ⟨rfl,c1⟩
   ·by_cases c2:nB ((af s p).take 8)=0∨nB ((af s p).take 8)=128
    ·exact .inr (.inl ⟨rfl,c1,c2⟩)
    ·by_cases c3:nB ((af s p).take 8)=255
     ·exact .inr (.inr ⟨128,8,by unfold dc0 dcX;rw[if_pos rfl,if_neg (by omega),if_neg c2,if_pos c3],by omega, .inr (.inl ⟨rfl,c3,rfl,rfl,by omega⟩)⟩)
     ·exact .inr (.inr ⟨_,8,by unfold dc0 dcX;rw[if_pos rfl,if_neg (by omega),if_neg c2,if_neg c3],by omega, .inr (.inr ⟨rfl,fun h=>c2 (.inl h),fun h=>c2 (.inr h),c3,rfl,rfl,by omega⟩)⟩)
 rcases h3 with⟨rfl,hsh⟩|⟨rfl,hsh,hz⟩|⟨dc,dn,hx,hle,h3⟩
 ·have hd:dc0 true (af s p)=(0,2,0):=by unfold dc0 dcX;rw[if_pos rfl,if_pos (by omega)]
  have hx:blX true coded (af s p)=(0,[],2,0):=by unfold blX;rw[hd];rfl
  rw[hx]
  simp only
  rw[e00]
  refine ACalls.en Tryz.func137 Tryz.ntmps137 ?_
  repeat' (first|(apply aa.q true;rfl;rfl;rfl;rfl;first|exact True.intro|omega|(simp only[tn,Int.reduceToNat];omega)|(rw[hlen];omega))|(apply aa.fK (.aX [I 0, .d (.sl 3 []),I p,I 2]);rfl;exact aD.aX ⟨aD.refl _,aD.d (dA.aG 3),aD.refl _,aD.refl _,trivial⟩;rfl;rfl;rfl)|apply aa.bO|intro _|refine aa.aR ?_)
  all_goals first|exact⟨rfl,rfl⟩|omega
 ·have hd:dc0 true (af s p)=(0,7,8):=by unfold dc0 dcX;rw[if_pos rfl,if_neg (by omega),if_pos hz]
  have hx:blX true coded (af s p)=(0,[],7,0):=by unfold blX;rw[hd];rfl
  rw[hx]
  simp only
  rw[e00]
  rcases hz with hz|hz
  all_goals
   rw[hz]at n8
   refine ACalls.en Tryz.func137 Tryz.ntmps137 ?_
   repeat' (first|(apply aa.q true;rfl;rfl;rfl;rfl;first|exact True.intro|omega|(simp only[tn,Int.reduceToNat];omega)|(rw[hlen];omega))|refine aa.ae (n8) ?_|(apply aa.fK (.aX [I 0, .d (.sl 3 []),I p,I 7]);rfl;exact aD.aX ⟨aD.refl _,aD.d (dA.aG 3),aD.refl _,aD.refl _,trivial⟩;rfl;rfl;rfl)|apply aa.bO|intro _|refine aa.aR ?_)
   all_goals first|exact⟨rfl,rfl⟩|omega
 ·unfold blX
  rw[hx]
  simp only[ne_eq,not_true_eq_false,if_false]
  cases coded with
  |false =>
   simp only[Bool.false_eq_true,if_false]
   rw[e00]
   rcases h3 with⟨rfl,rfl,rfl⟩|⟨rfl,hv,rfl,rfl,hp8⟩|⟨rfl,hv0,hv1,hv2,hdc,rfl,hp8⟩
   ·refine ACalls.en Tryz.func137 Tryz.ntmps137 ?_
    repeat' (first|refine aa.bN true ?_|refine aa.ae (rf) ?_|(apply aa.fK (.aX [I 0, .d (.sl 3 []),I p,I 0]);rfl;exact aD.aX ⟨aD.refl _,aD.d (dA.aG 3),aD.refl _,aD.refl _,trivial⟩;rfl;rfl;rfl)|apply aa.bO|intro _|refine aa.aR ?_)
    all_goals first|exact⟨rfl,rfl⟩|omega
   ·rw[hv]at n8
    refine ACalls.en Tryz.func137 Tryz.ntmps137 ?_
    repeat' (first|(apply aa.q true;rfl;rfl;rfl;rfl;first|exact True.intro|omega|(simp only[tn,Int.reduceToNat];omega)|(rw[hlen];omega))|refine aa.ae (n8) ?_|refine aa.ae (rf) ?_|(apply aa.fK (.aX [I 128, .d (.sl 3 []),I ((p:Int)+8),I 0]);rfl;exact aD.aX ⟨aD.refl _,aD.d (dA.aG 3),aD.refl _,aD.refl _,trivial⟩;rfl;rfl;rfl)|apply aa.bO|intro _|refine aa.aR ?_)
    all_goals first|exact⟨rfl,rfl⟩|omega
   ·rw[←hdc]at n8 hv0 hv1 hv2
    refine ACalls.en Tryz.func137 Tryz.ntmps137 ?_
    repeat' (first|(apply aa.q true;rfl;rfl;rfl;rfl;first|exact True.intro|omega|(simp only[tn,Int.reduceToNat];omega)|(rw[hlen];omega))|refine aa.ae (n8) ?_|refine aa.ae (rf) ?_|(apply aa.fK (.aX [I dc, .d (.sl 3 []),I ((p:Int)+8),I 0]);rfl;exact aD.aX ⟨aD.refl _,aD.d (dA.aG 3),aD.refl _,aD.refl _,trivial⟩;rfl;rfl;rfl)|apply aa.bO|intro _|refine aa.aR ?_)
    all_goals first|exact⟨rfl,rfl⟩|omega
  |true =>
   simp only[if_true]
   rw[bw]
   have hc0:=Hv (dC 66 (af s (p+dn)) (frm intra:Nat)) (zR _ _ _)
   generalize hR:dC 66 (af s (p+dn)) (frm intra:Nat)=R at *
   generalize ha0:((frm intra:Nat):Int)=a0 at *
   have rt:=fun q hq=>FM (gl:=gl) s q hs hq
   have hOe:R.2.1≠0→(if ¬R.2.1=0 then ((0:Int),([]:List Ev),R.2.1,(0:Nat)) else (dc,R.1,0,dn+R.2.2))=(0,[],R.2.1,0):=fun h=>if_pos h
   have hOk:R.2.1=0→(if ¬R.2.1=0 then ((0:Int),([]:List Ev),R.2.1,(0:Nat)) else (dc,R.1,0,dn+R.2.2))=(dc,R.1,0,dn+R.2.2):=fun h=>if_neg (fun k=>k h)
   generalize (if ¬R.2.1=0 then ((0:Int),([]:List Ev),R.2.1,(0:Nat)) else (dc,R.1,0,dn+R.2.2))=O at *
   rcases h3 with⟨rfl,hdc,hdn⟩|⟨rfl,hv,hdc,hdn,hp8⟩|⟨rfl,hv0,hv1,hv2,hdc,hdn,hp8⟩
   all_goals
    first|rw[hv]at n8|rw[←hdc]at n8 hv0 hv1 hv2|skip
    refine ACalls.en Tryz.func137 Tryz.ntmps137 ?_
    repeat (first|(apply aa.q true;rfl;rfl;rfl;rfl;first|exact True.intro|omega|(simp only[tn,Int.reduceToNat];omega)|(rw[hlen];omega))|refine aa.ae (n8) ?_|refine aa.ae (rf) ?_|refine aa.zJ 14 235 3 ?_|(apply aa.nP 14;rfl;rfl;(first|rfl|(simp only[List.length_append,List.length_map,List.length_set,List.length_replicate,List.length_cons,List.length_nil];omega)|(rw[hlen];omega));simp only[List.set_cons_zero,List.set_cons_succ])|refine aa.dG ?_)
    refine aa.weak (env':=[(15,I (a0 - 1)),(14, .own 3 (bB []) 0),(13,I ((p+dn+0:Nat):Int)),(12,I dc),(3,B true),(1,I p),(0,S (aC s))])
     ⟨rfl,by rw[e00];rfl,congrArg I (by omega),by first|rfl|(rw[hdc];rfl),rfl,rfl,rfl,trivial⟩ ?_
    refine aa.loop (fun m env H=>∃(acc:List Ev) (q:Nat) (a:Int) (cd:Bool),p+dn+q≤8*s.length∧(0≤a∧a≤64)∧(acc.length:Int)≤a ∧
     ((cd=true∧∃f:Nat,m=f+1∧65 - a<f∧xQ acc q (dC f (af s (p+dn+q)) a)=R)∨(cd=false∧m=0∧R=(acc,0,q))) ∧
     env=[(15,I (a - 1)),(14, .own 3 (bB acc) 0),(13,I ((p+dn+q:Nat):Int)),(12,I dc),(3,B cd),(1,I p),(0,S (aC s))]∧H=[.front 235 3 (bB acc).length]) 67
     ⟨[],0,a0,true,by omega,by omega,by simp;omega, .inl ⟨rfl,66,rfl,by omega,by rw[Nat.add_zero,hR];exact hc0⟩,rfl,by first|(rw[e00];done)|(rw[e00];rfl)⟩ ?_
    rintro m env H ⟨acc,q,a,cd,hq,ha,hacc,hcd,rfl,rfl⟩
    rcases hcd with⟨rfl,f,rfl,hf,hm⟩|⟨rfl,rfl,hR2⟩
    ·obtain⟨f,rfl⟩:∃g,f=g+1:=⟨f - 1,by omega⟩
     have tk:=rt (p+dn+q) hq
     have hB:=bR s (p+dn+q)
     have hal:=mQ acc
     by_cases h0:(evX (af s (p+dn+q))).2.1=0
     ·have hrun:=CR hB h0
      have hle2:=xc s (p+dn+q) hq h0
      by_cases h1:64<a+((evX (af s (p+dn+q))).1.run+1)
      ·rw[Mc h0 h1]at hm
       have hm2:R=([],7,q+(evX (af s (p+dn+q))).2.2):=by rw[←hm];rfl
       rw[hOe (by rw[hm2];exact (by decide:(7:Int)≠0)),hm2]
       generalize evX (af s (p+dn+q))=x at *
       obtain⟨⟨la,ru,le⟩,er,c⟩:=x
       simp only at h0 h1 hrun tk
       subst h0
       simp only
       rw[e00]
       repeat' (first|refine aa.bN true ?_|refine aa.ae (tk) ?_|(apply aa.jZ (.aX [I 0, .d (.sl 3 []),I p,I 7]);rfl;exact aD.aX ⟨aD.refl _,aD.d (dA.aG 3),aD.refl _,aD.refl _,trivial⟩;rfl;rfl;rfl)|intro _|refine aa.aR ?_)
       all_goals first|exact⟨rfl,rfl⟩|omega
      ·cases h2:(evX (af s (p+dn+q))).1.last with
       |true =>
        rw[Md h0 h1 h2]at hm
        have hm2:R=(acc++[(evX (af s (p+dn+q))).1],0,q+(evX (af s (p+dn+q))).2.2):=by rw[←hm];rfl
        have eA:=p7 acc (evX (af s (p+dn+q))).1
        generalize evX (af s (p+dn+q))=x at *
        obtain⟨⟨la,ru,le⟩,er,c⟩:=x
        simp only at h0 h1 h2 hrun tk eA hm2 hle2
        subst h0
        subst h2
        repeat' (first|(apply aa.append;(iterate 11 rfl);(first|rfl|(simp only[List.length_append,List.length_map,List.length_cons,List.length_nil];omega));(first|(simp only[List.length_append,List.length_map,List.length_cons,List.length_nil];omega)|(rw[hal];omega));simp only[List.set_cons_zero,List.set_cons_succ])|(apply aa.q true;rfl;rfl;rfl;rfl;first|exact True.intro|omega|(simp only[tn,Int.reduceToNat];omega)|(rw[hal];omega))|refine aa.ae (tk) ?_|intro _|refine aa.aR ?_)
        all_goals first
         |exact aa.iI 1 [(15,I (a+(ru+1) - 1)),(14, .own 3 (bB (acc++[⟨true,ru,le⟩])) 0),(13,I ((p+dn+(q+c):Nat):Int)),(12,I dc),(3,B false),(1,I p),(0,S (aC s))] 0 (by omega) rfl rfl rfl rfl
           ⟨congrArg I (by omega),by rw[eA];rfl,congrArg I (by omega),rfl,rfl,rfl,rfl,trivial⟩ ⟨acc++[⟨true,ru,le⟩],q+c,a+(ru+1),false,by omega,by omega,by rw[List.length_append];simp;omega, .inr ⟨rfl,rfl,hm2⟩,rfl,by first|(rw[eA];done)|(rw[eA];rfl)⟩
         |omega
       |false =>
        rw[wh h0 h1 h2,bw,Nat.add_assoc (p+dn)]at hm
        have eA:=p7 acc (evX (af s (p+dn+q))).1
        generalize evX (af s (p+dn+q))=x at *
        obtain⟨⟨la,ru,le⟩,er,c⟩:=x
        simp only at h0 h1 h2 hrun tk eA hm hle2
        subst h0
        subst h2
        repeat' (first|(apply aa.append;(iterate 11 rfl);(first|rfl|(simp only[List.length_append,List.length_map,List.length_cons,List.length_nil];omega));(first|(simp only[List.length_append,List.length_map,List.length_cons,List.length_nil];omega)|(rw[hal];omega));simp only[List.set_cons_zero,List.set_cons_succ])|(apply aa.q true;rfl;rfl;rfl;rfl;first|exact True.intro|omega|(simp only[tn,Int.reduceToNat];omega)|(rw[hal];omega))|refine aa.ae (tk) ?_|intro _|refine aa.aR ?_)
        all_goals first
         |exact aa.iI 1 [(15,I (a+(ru+1) - 1)),(14, .own 3 (bB (acc++[⟨false,ru,le⟩])) 0),(13,I ((p+dn+(q+c):Nat):Int)),(12,I dc),(3,B true),(1,I p),(0,S (aC s))] (f+1) (by omega) rfl rfl rfl rfl
           ⟨congrArg I (by omega),by rw[eA];rfl,congrArg I (by omega),rfl,rfl,rfl,rfl,trivial⟩ ⟨acc++[⟨false,ru,le⟩],q+c,a+(ru+1),true,by omega,by omega,by rw[List.length_append];simp;omega, .inl ⟨rfl,f,rfl,by omega,hm⟩,rfl,by first|(rw[eA];done)|(rw[eA];rfl)⟩
         |omega
     ·rw[Ma h0]at hm
      obtain⟨u1,u2⟩:=(uE hB).2 h0
      have hm2:R=([],(evX (af s (p+dn+q))).2.1,q+0):=by rw[←hm];unfold xQ;rw[if_pos h0]
      rw[hOe (by rw[hm2];exact h0),hm2]
      generalize evX (af s (p+dn+q))=x at *
      obtain⟨⟨la,ru,le⟩,er,c⟩:=x
      simp only at h0 tk u1
      subst u1
      simp only
      rw[e00]
      repeat' (first|refine aa.bN true ?_|refine aa.ae (tk) ?_|(apply aa.jZ (.aX [I 0, .d (.sl 3 []),I p,I er]);rfl;exact aD.aX ⟨aD.refl _,aD.d (dA.aG 3),aD.refl _,aD.refl _,trivial⟩;rfl;rfl;rfl)|intro _|refine aa.aR ?_)
      all_goals first|exact⟨rfl,rfl⟩|omega
    ·rw[hOk (by rw[hR2]),hR2]
     simp only
     rw[←Nat.add_assoc]
     repeat' (first|refine aa.bN true ?_|(apply aa.fK (.aX [I dc, .d (.sl 3 (bB acc)),I ((p+dn+q:Nat):Int),I 0]);rfl;exact aD.aX ⟨aD.refl _,aD.own _ _ _,aD.refl _,aD.refl _,trivial⟩;rfl;rfl;rfl)|intro _|refine aa.aR ?_)
     all_goals first|exact⟨rfl,rfl⟩|omega
end Tc
end Go.Proofs.YtbpednchkndocaaGreatDoor.Av
