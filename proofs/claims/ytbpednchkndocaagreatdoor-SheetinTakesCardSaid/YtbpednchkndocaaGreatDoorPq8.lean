/- Events are read: the document's Take. Blocks are read: the document's Take. -/
import Derived.Test.YtbpednchkndocaaGreatDoorPq2
import Derived.Test.YtbpednchkndocaaGreatDoorPn5
import Derived.Test.YtbpednchkndocaaGreatDoorPq3
set_option linter.unusedVariables false
set_option linter.unusedSimpArgs false
set_option maxRecDepth 100000
set_option maxHeartbeats 64000000
namespace Go.Proofs.YtbpednchkndocaaGreatDoor.Av
namespace Tc
open Go Bt
attribute [local irreducible] aa ACalls aO aC bB
variable {gl:List (Nat×List D)}
theorem J3 (s:List UInt8) (q:Nat) (h:q+15≤8*s.length):nB ((ak s q).take 15)=(dz s (q:Int)*64+nB ((ak s (q+1)).take 6))*256+nB ((ak s (q+7)).take 8):=by
 have e:(ak s q).take 15=[dz s (q:Int)]++((ak s (q+1)).take 6++(ak s (q+7)).take 8):=by
  rw[fO s q (by omega),List.take_succ_cons,show 14=6+8 from rfl,List.take_add,bX]
  rfl
 have l6:((ak s (q+1)).take 6).length=6:=take_len s (q+1) 6 (by omega)
 have l8:((ak s (q+7)).take 8).length=8:=take_len s (q+7) 8 (by omega)
 have n1:nB [dz s (q:Int)]=dz s (q:Int):=by simp[nB]
 rw[e,mO,mO,List.length_append,l6,l8,n1]
 omega
theorem MW:tD (kv 0)=[.str [48,48,48,48,48,49,49]]:=rfl
theorem NE:eD (kv 0)=[EF false 0 0]:=rfl
theorem Ft (ru:Nat) (h:ru≤64):(kv ru).length≤103:=KV ⟨ru,by omega⟩
theorem BS (la:Bool) (ru:Nat) (h:ru≤63):(gZ la (ru:Int)).length≤12:=KJ la ⟨ru,by omega⟩
def lN (ru k:Nat):List TE:=kv ru++(if 1≤k then grp false ru else [])++(if 2≤k then grp true ru else [])
theorem Bg (ru:Nat):lN ru 0=kv ru:=by simp[lN]
theorem KX (ru:Nat):lN ru 2=kv (ru+1):=by rw[DY];simp[lN]
theorem KW (ru k:Nat) (h:k<2):lN ru (k+1)=lN ru k++grp (decide ((k:Int)=1)) ru:=by
 rcases (show k=0∨k=1 by omega)with rfl|rfl<;>simp[lN]
theorem Fu (ru k:Nat) (h:ru≤63):(lN ru k).length≤127:=by
 have h1:=Ft ru (by omega)
 have h2:=yl false ru
 have h3:=yl true ru
 have h4:=BS false ru h
 have h5:=BS true ru h
 unfold lN
 simp only[List.length_append]
 split<;>split<;>(try simp only[List.length_nil])<;>omega
attribute [local irreducible] lN bE jE y9 Aw gZ kZ cH grp kv tD eD qL evX t5
theorem F4 (s:List UInt8) (p:Nat) (hs:s.length≤100000) (hp:p≤8*s.length):ACalls (cxg gl) 206 [S (aS s),I p] []
  (fun r H=>r = .bK [.d (evD (evX (ak s p)).1),I ((p+(evX (ak s p)).2.2:Nat):Int),I (evX (ak s p)).2.1]∧H=[]):=by
 refine ACalls.en Tryz.func206 Tryz.ntmps206 ?_
 repeat (first|refine aa.aD ?_|refine aa.nY ?_|refine aa.bh true ?_|refine aa.aW ?_|refine aa.ae ?_|refine aa.af ?_|refine aa.au ?_|refine aa.ai ?_|refine aa.aG ?_|refine aa.aA ?_|refine aa.aL ?_|refine aa.aK ?_|refine aa.aF ?_|refine aa.mi 7 ?_|refine aa.mi 8 ?_)
 refine aa.weak (env':=[(9,I ((0:Nat):Int)),(8, .own 3 (eD (kv 0)) 2),(7, .own 1 (tD (kv 0)) 1),(4, .ptr 0 0),(1,I p),(0,S (aS s))]) ⟨rfl,congrArg (AV.own 3 · 2) NE.symm,congrArg (AV.own 1 · 1) MW.symm,rfl,rfl,rfl,trivial⟩ ?_
 refine aa.loop (fun m env H=>∃ru:Nat,m=64 - ru∧ru≤64∧env=[(9,I (ru:Int)),(8, .own 3 (eD (kv ru)) 2),(7, .own 1 (tD (kv ru)) 1),(4, .ptr 0 0),(1,I p),(0,S (aS s))] ∧
  H=[.cells [B false,I 0,I 0], .front 9 1 (tD (kv ru)).length, .front 235 3 (eD (kv ru)).length]) 64
  ⟨0,rfl,by omega,rfl,by rw[MW,NE]⟩ ?_
 rintro m env H ⟨ru,rfl,hru,rfl,rfl⟩
 rcases Nat.lt_or_ge ru 64 with hr|hr
 ·repeat (first|refine aa.aD ?_|refine aa.bh true ?_|refine aa.aW ?_|refine aa.ae ?_|refine aa.af ?_|refine aa.au ?_|refine aa.ai ?_|refine aa.aG ?_|refine aa.aA ?_|refine aa.aL ?_|refine aa.aK ?_|refine aa.aF ?_)
  refine aa.weak (env':=[(10,I ((0:Nat):Int)),(9,I (ru:Int)),(8, .own 3 (eD (lN ru 0)) 2),(7, .own 1 (tD (lN ru 0)) 1),(4, .ptr 0 0),(1,I p),(0,S (aS s))]) ⟨rfl,rfl,by rw[Bg];rfl,by rw[Bg];rfl,rfl,rfl,rfl,trivial⟩ ?_
  refine aa.loop (fun m env H=>∃k:Nat,m=2 - k∧k≤2∧env=[(10,I (k:Int)),(9,I (ru:Int)),(8, .own 3 (eD (lN ru k)) 2),(7, .own 1 (tD (lN ru k)) 1),(4, .ptr 0 0),(1,I p),(0,S (aS s))] ∧
   H=[.cells [B false,I 0,I 0], .front 9 1 (tD (lN ru k)).length, .front 235 3 (eD (lN ru k)).length]) 2
   ⟨0,rfl,by omega,rfl,by rw[Bg]⟩ ?_
  rintro m env H ⟨k,rfl,hk,rfl,rfl⟩
  rcases Nat.lt_or_ge k 2 with hk2|hk2
  ·have hT:=Fu ru k (by omega)
   have hs1:=KW ru k hk2
   have rc:=IZ (gl:=gl) (decide ((k:Int)=1)) ru (by omega)
   have gt:=G7 (decide ((k:Int)=1)) ru
   have gl':=yl (decide ((k:Int)=1)) ru
   generalize lN ru k=T at *
   rcases rc with⟨hW,rc⟩|rc
   ·have e0:T++grp (decide ((k:Int)=1)) ru=T:=by
     rw[hW]at gl'
     rw[List.length_eq_zero_iff.1 gl',List.append_nil]
    rw[e0]at hs1
    repeat' (first|refine aa.aD ?_|refine aa.bh true ?_|refine aa.ah (rc) ?_|refine aa.aW ?_|refine aa.ae ?_|refine aa.af ?_|refine aa.au ?_|refine aa.ai ?_|refine aa.aG ?_|refine aa.aA ?_|refine aa.aL ?_|refine aa.aK ?_|refine aa.aF ?_|apply aa.cK|intro _|(apply aa.iE;rfl)|refine aa.av ?_|refine aa.aI ?_)
    exact aa.jk 3 [(10,I ((k+1:Nat):Int)),(9,I (ru:Int)),(8, .own 3 (eD (lN ru (k+1))) 2),(7, .own 1 (tD (lN ru (k+1))) 1),(4, .ptr 0 0),(1,I p),(0,S (aS s))] (2 - (k+1)) (by omega) rfl rfl rfl rfl
     ⟨rfl,rfl,by rw[hs1];rfl,by rw[hs1];rfl,rfl,rfl,rfl,trivial⟩ ⟨k+1,rfl,by omega,rfl,by first|(rw[hs1];done)|(rw[hs1];rfl)⟩
   ·have hl:=gK (gZ (decide ((k:Int)=1)) ru)
    have gg:=kN (gZ (decide ((k:Int)=1)) ru)
    generalize hWe:gZ (decide ((k:Int)=1)) (ru:Int)=W at *
    repeat (first|refine aa.aD ?_|refine aa.bh true ?_|refine aa.az [] ( rc) ?_|refine aa.aW ?_|refine aa.ae ?_|refine aa.af ?_|refine aa.au ?_|refine aa.ai ?_|refine aa.aG ?_|refine aa.aA ?_|refine aa.aL ?_|refine aa.aK ?_|refine aa.aF ?_)
    refine aa.weak (env':=[(12,I ((0:Nat):Int)),(11, .own 1 (bE W) 3),(10,I (k:Int)),(9,I (ru:Int)),(8, .own 3 (eD (T++(grp (decide ((k:Int)=1)) ru).take 0)) 2),(7, .own 1 (tD (T++(grp (decide ((k:Int)=1)) ru).take 0)) 1),(4, .ptr 0 0),(1,I p),(0,S (aS s))])
     ⟨rfl,rfl,rfl,rfl,by rw[List.take_zero,List.append_nil];rfl,by rw[List.take_zero,List.append_nil];rfl,rfl,rfl,rfl,trivial⟩ ?_
    refine aa.loop (fun m env H=>∃i:Nat,m=W.length - i∧i≤W.length∧env=[(12,I (i:Int)),(11, .own 1 (bE W) 3),(10,I (k:Int)),(9,I (ru:Int)),(8, .own 3 (eD (T++(grp (decide ((k:Int)=1)) ru).take i)) 2),(7, .own 1 (tD (T++(grp (decide ((k:Int)=1)) ru).take i)) 1),(4, .ptr 0 0),(1,I p),(0,S (aS s))] ∧
     H=[.cells [B false,I 0,I 0], .front 9 1 (tD (T++(grp (decide ((k:Int)=1)) ru).take i)).length, .front 235 3 (eD (T++(grp (decide ((k:Int)=1)) ru).take i)).length, .front 9 1 (bE W).length]) W.length
     ⟨0,rfl,by omega,rfl,by rw[List.take_zero,List.append_nil]⟩ ?_
    rintro m env H ⟨i,rfl,hi,rfl,rfl⟩
    rcases Nat.lt_or_ge i W.length with hil|hig
    ·have hx:W[i]?=some (W.getD i []):=by rw[List.getD_eq_getElem?_getD,List.getElem?_eq_getElem hil];rfl
     have gt1:=gt i _ hx
     have g1:=gg i hil
     generalize W.getD i []=w at *
     have hWl:W.length≤12:=by rw[←hWe];exact BS _ ru (by omega)
     have hTl:(T++(grp (decide ((k:Int)=1)) ru).take i).length≤10000:=by
      rw[List.length_append,List.length_take];omega
     have hTs:T++(grp (decide ((k:Int)=1)) ru).take (i+1)=(T++(grp (decide ((k:Int)=1)) ru).take i)++[(w,decide ((k:Int)=1),ru,i+1)]:=by rw[gt1,List.append_assoc]
     generalize T++(grp (decide ((k:Int)=1)) ru).take i=T1 at *
     have h1:=KY T1
     have h2:=Hw T1
     have a1:=KZ T1 (w,decide ((k:Int)=1),ru,i+1)
     have a2:=Mg T1 (w,decide ((k:Int)=1),ru,i+1)
     repeat' (first|refine aa.aD ?_|(apply aa.append;(iterate 11 rfl);(first|rfl|(simp only[List.length_append,List.length_map,List.length_cons,List.length_nil];omega));(first|(simp only[List.length_append,List.length_map,List.length_cons,List.length_nil];omega)|(rw[hl];omega)|(rw[h1];omega)|(rw[h2];omega));simp only[List.set_cons_zero,List.set_cons_succ])|(apply aa.q true;rfl;rfl;rfl;rfl;first|exact True.intro|omega|(simp only[tn,Int.reduceToNat];omega)|(rw[hl];omega)|(rw[h1];omega)|(rw[h2];omega))|refine aa.aW ?_|refine aa.ae ?_|refine aa.af ?_|refine aa.au ?_|refine aa.ai ?_|refine aa.aG ?_|refine aa.aA ?_|refine aa.aL ?_|refine aa.aK ?_|refine aa.aF ?_|(apply aa.gQ;(iterate 7 rfl);exact g1)|intro _|(apply aa.iE;rfl)|refine aa.av ?_|refine aa.aI ?_)
     all_goals first
      |exact aa.round [(12,I ((i+1:Nat):Int)),(11, .own 1 (bE W) 3),(10,I (k:Int)),(9,I (ru:Int)),(8, .own 3 (eD (T++(grp (decide ((k:Int)=1)) ru).take (i+1))) 2),(7, .own 1 (tD (T++(grp (decide ((k:Int)=1)) ru).take (i+1))) 1),(4, .ptr 0 0),(1,I p),(0,S (aS s))] (W.length - (i+1)) (by omega)
        ⟨rfl,rfl,rfl,rfl,by rw[hTs,a2];rfl,by rw[hTs,a1];rfl,rfl,rfl,rfl,trivial⟩ ⟨i+1,rfl,by omega,rfl,by rw[hTs,a1,a2];rfl⟩
      |omega
    ·obtain rfl:i=W.length:=by omega
     have e1:(grp (decide ((k:Int)=1)) ru).take W.length=grp (decide ((k:Int)=1)) ru:=List.take_of_length_le (by omega)
     rw[e1,←hs1]
     repeat' (first|refine aa.aD ?_|(apply aa.q true;rfl;rfl;rfl;rfl;first|exact True.intro|omega|(simp only[tn,Int.reduceToNat];omega)|(rw[hl];omega))|refine aa.aW ?_|refine aa.ae ?_|refine aa.af ?_|refine aa.au ?_|refine aa.ai ?_|refine aa.aG ?_|refine aa.aA ?_|refine aa.aL ?_|refine aa.aK ?_|refine aa.aF ?_|intro _|(apply aa.iE;rfl)|refine aa.av ?_|refine aa.aI ?_)
     all_goals first
      |exact aa.jk 3 [(10,I ((k+1:Nat):Int)),(9,I (ru:Int)),(8, .own 3 (eD (lN ru (k+1))) 2),(7, .own 1 (tD (lN ru (k+1))) 1),(4, .ptr 0 0),(1,I p),(0,S (aS s))] (2 - (k+1)) (by omega) rfl rfl rfl rfl
        ⟨rfl,rfl,rfl,rfl,rfl,rfl,rfl,trivial⟩ ⟨k+1,rfl,by omega,rfl,rfl⟩
      |omega
  ·obtain rfl:k=2:=by omega
   have e2:=KX ru
   repeat' (first|refine aa.aD ?_|refine aa.bh true ?_|refine aa.aW ?_|refine aa.ae ?_|refine aa.af ?_|refine aa.au ?_|refine aa.ai ?_|refine aa.aG ?_|refine aa.aA ?_|refine aa.aL ?_|refine aa.aK ?_|refine aa.aF ?_|intro _|(apply aa.iE;rfl)|refine aa.av ?_|refine aa.aI ?_)
   exact aa.round [(9,I ((ru+1:Nat):Int)),(8, .own 3 (eD (kv (ru+1))) 2),(7, .own 1 (tD (kv (ru+1))) 1),(4, .ptr 0 0),(1,I p),(0,S (aS s))] (64 - (ru+1)) (by omega)
    ⟨rfl,by rw[←e2];rfl,by rw[←e2];rfl,rfl,rfl,rfl,trivial⟩ ⟨ru+1,rfl,by omega,rfl,by rw[←e2]⟩
 ·obtain rfl:ru=64:=by omega
  have hr:=vh
  have rt:=tz (gl:=gl) dF (aS s) p (by omega) (by rw[cZ];omega) (by omega)
  rw[rA dF _ p yx (by rw[cZ];omega),iW,←EE,←uw]at rt
  have hu:=kL dF ((ak s p).map bM) []
  have hb:=Mv.iR dF ((ak s p).map bM) []
  have hB:=cO s p
  have hBl:=bY s p
  have hag:=jf 13 0 1 [] iq (ak s p) hB
  have hesc:=Au (ak s p) 0 1
  have hlen:=cZ s
  unfold evX
  generalize hR:cV dF ((ak s p).map bM) []=R at *
  obtain⟨i,e,c⟩:=R
  simp only[List.length_map,List.length_nil]at hu hb hag ⊢
  unfold oU at rt
  by_cases he:e=0
  ·subst he
   have hu:=hu rfl
   have hb:=hb rfl
   simp only[if_true]at rt
   obtain⟨n,rfl⟩:∃n:Nat,i=n:=⟨i.toNat,by omega⟩
   replace rt:ACalls (cxg gl) 202 [.d (.sl 1 (tD (kv 64))),S (aS s),I p] [] (fun r H=>r = .bK [I (n:Int),I ((p+c:Nat):Int),I 0]∧H=[]):=rt
   obtain⟨hc,i2,hi2,hok⟩:=hag.2 rfl
   obtain rfl:n=i2:=by omega
   rw[if_neg (show ¬(0:Int)≠0 by omega)]
   by_cases hn:n=0
   ·subst hn
    rw[if_pos (show ((0:Nat):Int)=0 from rfl)]
    have hx:(jM (ak s p) 0 1).1 = -1:=by
     unfold okE at hok
     rw[if_pos rfl]at hok
     exact of_decide_eq_true hok
    have hc7:=hesc hx hag.1
    obtain rfl:c=7:=by omega
    rw[bX]
    by_cases h15:(ak s p).length - 7<15
    ·have ex:lw (nB ((ak s (p+7)).take 15)) ((ak s p).length - 7)=(ev0,2,0):=by unfold lw;rw[if_pos h15]
     rw[ex]
     repeat' (first|refine aa.aD ?_|(apply aa.q true;rfl;rfl;rfl;rfl;first|exact True.intro|omega|(simp only[tn,Int.reduceToNat];omega)|(rw[hlen];omega))|refine aa.eQ ( rt) ?_|refine aa.aW ?_|refine aa.ae ?_|refine aa.af ?_|refine aa.au ?_|refine aa.ai ?_|refine aa.aG ?_|refine aa.aA ?_|refine aa.aL ?_|refine aa.aK ?_|refine aa.aF ?_|intro _|(apply aa.iE;rfl)|refine aa.av ?_|refine aa.aI ?_)
     all_goals first|exact⟨rfl,rfl⟩|omega
    ·have ex:lw (nB ((ak s (p+7)).take 15)) ((ak s p).length - 7)=if jL (dY (nB ((ak s (p+7)).take 15)))=true then (ev0,7,0) else (dY (nB ((ak s (p+7)).take 15)),0,22):=by unfold lw;rw[if_neg h15]
     rw[ex,J3 s (p+7) (by omega)]
     have b1:=yG s (p+7) (by omega)
     have b0:=jw s ((p+7:Nat):Int)
     have s6:((aS s).take (((p+7:Nat):Int)+7).toNat).drop (((p+7:Nat):Int)+1).toNat=((ak s (p+7+1)).take 6).map bM:=by
      rw[show (((p+7:Nat):Int)+7).toNat=p+7+1+6 by omega,show (((p+7:Nat):Int)+1).toNat=p+7+1 by omega]
      exact mJ s (p+7+1) 6
     have s8:((aS s).take (((p+7:Nat):Int)+15).toNat).drop (((p+7:Nat):Int)+7).toNat=((ak s (p+7+7)).take 8).map bM:=by
      rw[show (((p+7:Nat):Int)+15).toNat=p+7+7+8 by omega,show (((p+7:Nat):Int)+7).toNat=p+7+7 by omega]
      exact mJ s (p+7+7) 8
     have l6:((ak s (p+7+1)).take 6).length=6:=take_len s _ 6 (by omega)
     have l8:((ak s (p+7+7)).take 8).length=8:=take_len s _ 8 (by omega)
     have o6:=dQ s (p+7+1) 6
     have o8:=dQ s (p+7+7) 8
     have n6:=l7 (gl:=gl) (((ak s (p+7+1)).take 6).map bM) (by rw[List.length_map];omega) (all_map _ o6)
     have n8:=l7 (gl:=gl) (((ak s (p+7+7)).take 8).map bM) (by rw[List.length_map];omega) (all_map _ o8)
     rw[jZ _ o6,←s6]at n6
     rw[jZ _ o8,←s8]at n8
     have m6:=jd 6 _ l6 o6
     have m8:=jd 8 _ l8 o8
     generalize nB ((ak s (p+7+1)).take 6)=v6 at *
     generalize nB ((ak s (p+7+7)).take 8)=v8 at *
     generalize dz s ((p+7:Nat):Int)=v1 at *
     rw[Hs v1 v6 v8 (by omega) (by omega) (by omega)]
     rw[show 48+v1=bt (aS s) ((p+7:Nat):Int).toNat by rw[Int.toNat_natCast];exact b1.symm]
     have hle : -128≤(if 127<v8 then v8 - 256 else v8)∧(if 127<v8 then v8 - 256 else v8)≤127:=by split<;>omega
     generalize hlv:(if 127<v8 then v8 - 256 else v8)=le at *
     have rr:=zr (gl:=gl) ⟨decide (bt (aS s) ((p+7:Nat):Int).toNat=49),v6,le⟩
     have am:=Ia (gl:=gl) le (by omega)
     have hpl:=fun h=>wL (e:=⟨decide (bt (aS s) ((p+7:Nat):Int).toNat=49),v6,le⟩) h
     unfold jL
     cases hR:evR ⟨decide (bt (aS s) ((p+7:Nat):Int).toNat=49),v6,le⟩with
     |false =>
      rw[hR]at rr
      rw[if_pos (by simp)]
      by_cases h127:127<v8
      all_goals
       first|rw[if_pos h127]at hlv|rw[if_neg h127]at hlv
       subst hlv
       repeat' (first|refine aa.aD ?_|(apply aa.cg [0,1,2,3,4,5,6,7,8,9,10,11,12,13,14,15,16,17,18,19,20] 21 18;rfl)|(apply aO.bi;rfl;(apply aQ.q true;rfl;rfl;first|exact True.intro|omega|(rw[hlen];omega));exact fun _ _ _ h=>h;(iterate 6 rfl);kernel_rfl;kernel_rfl)|(apply aO.load;rfl;rfl;(first|exact True.intro|omega|(rw[hlen];omega));exact fun _ _ _ h=>h;(iterate 6 rfl);kernel_rfl;kernel_rfl)|(apply aO.go)|refine aC.bQ ?_|refine aC.eC ?_|(apply aC.bi;rfl;(apply aQ.q true;rfl;rfl;first|exact True.intro|omega|(rw[hlen];omega));exact fun _ _ _ h=>h;(iterate 6 rfl);kernel_rfl;kernel_rfl)|refine aC.aH (n6) ?_|refine aC.aH (n8) ?_|refine aC.aH (rr) ?_|refine aC.aH ( rt) ?_|(apply aC.quiet;rfl;(apply dm.q true;rfl;(first|exact True.intro|omega|(rw[hlen];omega)));rfl;rfl;rfl;rfl;kernel_rfl;rfl)|refine aC.dw ?_|refine aC.xM ?_|(apply aC.iC;rfl;kernel_rfl)|(apply aC.Dh;rfl;kernel_rfl)|refine bB.dw ?_|refine bB.eC ?_|(apply bB.quiet;rfl;(apply dm.q true;rfl;(first|exact True.intro|omega|(rw[hlen];omega)));rfl;rfl;rfl;rfl)|refine bB.aH (n6) ?_|refine bB.aH (n8) ?_|refine bB.aH (rr) ?_|refine bB.aH ( rt) ?_|(apply aC.back)|(exact aa.cL)|(apply aa.bV;(repeat' (first|exact bz.nil|(apply bz.cons;rfl)));rfl)|(apply aa.cg [0,1,2,3,4,5,6,7,8,9,10,11,12,13] 14 14;rfl)|(apply aa.q true;rfl;rfl;rfl;rfl;first|exact True.intro|omega|(simp only[tn,Int.reduceToNat];omega)|(rw[hlen];omega))|refine aa.eQ ( rt) ?_|refine aa.ah (n6) ?_|refine aa.ah (n8) ?_|refine aa.ah (rr) ?_|refine aa.aW ?_|refine aa.ae ?_|refine aa.af ?_|refine aa.au ?_|refine aa.ai ?_|refine aa.aG ?_|refine aa.aA ?_|refine aa.aL ?_|refine aa.aK ?_|refine aa.aF ?_|intro _|(apply aa.iE;rfl)|refine aa.av ?_|refine aa.aI ?_)
       all_goals first|exact⟨rfl,rfl⟩|omega
     |true =>
      rw[hR]at rr
      have hpl2:=hpl hR
      simp only at hpl2
      have hb:(0≤v6∧v6≤63)∧le≠0 ∧ -127≤le∧le≤127:=of_decide_eq_true hR
      have ab:=DK hb.2
      have hs:=Ny (gl:=gl) (decide (bt (aS s) ((p+7:Nat):Int).toNat=49)) v6 (mE le) hb.1.1 ab.1 (by omega)
      have hhl:=G5 (decide (bt (aS s) ((p+7:Nat):Int).toNat=49)) v6 (mE le) hb.1
      have e22:((p+22:Nat):Int)=((p+7:Nat):Int)+15:=by omega
      by_cases hw:kZ (decide (bt (aS s) ((p+7:Nat):Int).toNat=49)) v6 (mE le)=[]
      ·rw[decide_eq_true hw]at hpl2
       have hp0:decide (0≤dE (decide (bt (aS s) ((p+7:Nat):Int).toNat=49)) v6 (max le (-le)))=false:=by simpa using hpl2.symm
       rw[hp0,if_neg (by simp)]
       rw[hw]at hs
       simp only
       rw[e22]
       by_cases h127:127<v8
       all_goals
        first|rw[if_pos h127]at hlv|rw[if_neg h127]at hlv
        subst hlv
        repeat' (first|refine aa.aD ?_|(apply aa.cg [0,1,2,3,4,5,6,7,8,9,10,11,12,13,14,15,16,17,18,19,20] 21 18;rfl)|(apply aO.bi;rfl;(apply aQ.q true;rfl;rfl;first|exact True.intro|omega|(rw[hlen];omega));exact fun _ _ _ h=>h;(iterate 6 rfl);kernel_rfl;kernel_rfl)|(apply aO.load;rfl;rfl;(first|exact True.intro|omega|(rw[hlen];omega));exact fun _ _ _ h=>h;(iterate 6 rfl);kernel_rfl;kernel_rfl)|(apply aO.go)|refine aC.bQ ?_|refine aC.eC ?_|(apply aC.bi;rfl;(apply aQ.q true;rfl;rfl;first|exact True.intro|omega|(rw[hlen];omega));exact fun _ _ _ h=>h;(iterate 6 rfl);kernel_rfl;kernel_rfl)|refine aC.aH (n6) ?_|refine aC.aH (n8) ?_|refine aC.aH (rr) ?_|refine aC.aH (am) ?_|refine aC.aH (hs) ?_|refine aC.aH ( rt) ?_|(apply aC.quiet;rfl;(apply dm.q true;rfl;(first|exact True.intro|omega|(rw[hlen];omega)));rfl;rfl;rfl;rfl;kernel_rfl;rfl)|refine aC.dw ?_|refine aC.xM ?_|(apply aC.iC;rfl;kernel_rfl)|(apply aC.Dh;rfl;kernel_rfl)|refine bB.dw ?_|refine bB.eC ?_|(apply bB.quiet;rfl;(apply dm.q true;rfl;(first|exact True.intro|omega|(rw[hlen];omega)));rfl;rfl;rfl;rfl)|refine bB.aH (n6) ?_|refine bB.aH (n8) ?_|refine bB.aH (rr) ?_|refine bB.aH (am) ?_|refine bB.aH (hs) ?_|refine bB.aH ( rt) ?_|(apply aC.back)|(exact aa.cL)|(apply aa.bV;(repeat' (first|exact bz.nil|(apply bz.cons;rfl)));rfl)|(apply aa.cg [0,1,2,3,4,5,6,7,8,9,10,11,12,13] 14 14;rfl)|(apply aa.q true;rfl;rfl;rfl;rfl;first|exact True.intro|omega|(simp only[tn,Int.reduceToNat];omega)|(rw[hlen];omega))|refine aa.eQ ( rt) ?_|refine aa.ah (n6) ?_|refine aa.ah (n8) ?_|refine aa.ah (rr) ?_|refine aa.ah (am) ?_|refine aa.ah (hs) ?_|refine aa.aW ?_|refine aa.ae ?_|refine aa.af ?_|refine aa.au ?_|refine aa.ai ?_|refine aa.aG ?_|refine aa.aA ?_|refine aa.aL ?_|refine aa.aK ?_|refine aa.aF ?_|intro _|(apply aa.iE;rfl)|refine aa.av ?_|refine aa.aI ?_)
        all_goals first|exact⟨rfl,rfl⟩|omega
      ·rw[decide_eq_false hw]at hpl2
       have hp0:decide (0≤dE (decide (bt (aS s) ((p+7:Nat):Int).toNat=49)) v6 (max le (-le)))=true:=by simpa using hpl2.symm
       rw[hp0,if_pos (by simp)]
       generalize kZ (decide (bt (aS s) ((p+7:Nat):Int).toNat=49)) v6 (mE le)=W at *
       by_cases h127:127<v8
       all_goals
        first|rw[if_pos h127]at hlv|rw[if_neg h127]at hlv
        subst hlv
        repeat' (first|refine aa.aD ?_|(apply aa.cg [0,1,2,3,4,5,6,7,8,9,10,11,12,13,14,15,16,17,18,19,20] 21 18;rfl)|(apply aO.bi;rfl;(apply aQ.q true;rfl;rfl;first|exact True.intro|omega|(rw[hlen];omega));exact fun _ _ _ h=>h;(iterate 6 rfl);kernel_rfl;kernel_rfl)|(apply aO.load;rfl;rfl;(first|exact True.intro|omega|(rw[hlen];omega));exact fun _ _ _ h=>h;(iterate 6 rfl);kernel_rfl;kernel_rfl)|(apply aO.go)|refine aC.bQ ?_|refine aC.eC ?_|(apply aC.bi;rfl;(apply aQ.q true;rfl;rfl;first|exact True.intro|omega|(rw[hlen];omega));exact fun _ _ _ h=>h;(iterate 6 rfl);kernel_rfl;kernel_rfl)|refine aC.aH (n6) ?_|refine aC.aH (n8) ?_|refine aC.aH (rr) ?_|refine aC.aH (am) ?_|refine aC.aH (hs) ?_|refine aC.aH ( rt) ?_|(apply aC.quiet;rfl;(apply dm.q true;rfl;(first|exact True.intro|omega|(rw[hlen];omega)));rfl;rfl;rfl;rfl;kernel_rfl;rfl)|refine aC.dw ?_|refine aC.xM ?_|(apply aC.iC;rfl;kernel_rfl)|(apply aC.Dh;rfl;kernel_rfl)|refine bB.dw ?_|refine bB.eC ?_|(apply bB.quiet;rfl;(apply dm.q true;rfl;(first|exact True.intro|omega|(rw[hlen];omega)));rfl;rfl;rfl;rfl)|refine bB.aH (n6) ?_|refine bB.aH (n8) ?_|refine bB.aH (rr) ?_|refine bB.aH (am) ?_|refine bB.aH (hs) ?_|refine bB.aH ( rt) ?_|(apply aC.back)|(exact aa.cL)|(apply aa.bV;(repeat' (first|exact bz.nil|(apply bz.cons;rfl)));rfl)|(apply aa.cg [0,1,2,3,4,5,6,7,8,9,10,11,12,13] 14 14;rfl)|(apply aa.q true;rfl;rfl;rfl;rfl;first|exact True.intro|omega|(simp only[tn,Int.reduceToNat];omega)|(rw[hlen];omega))|refine aa.eQ ( rt) ?_|refine aa.ah (n6) ?_|refine aa.ah (n8) ?_|refine aa.ah (rr) ?_|refine aa.ah (am) ?_|refine aa.ah (hs) ?_|refine aa.aW ?_|refine aa.ae ?_|refine aa.af ?_|refine aa.au ?_|refine aa.ai ?_|refine aa.aG ?_|refine aa.aA ?_|refine aa.aL ?_|(apply aa.cBT;rfl;first|(simp only[bT];omega)|((simp[hw];done)))|refine aa.aF ?_|intro _|(apply aa.iE;rfl)|refine aa.av ?_|refine aa.aI ?_)
        all_goals first|exact⟨rfl,rfl⟩|omega|(exfalso;simp_all;done)
   ·have hn3:n<103:=by have:=hb.2;rw[hr]at this;omega
    have hok2:=hok
    unfold okE at hok2
    rw[if_neg hn]at hok2
    simp only[Bool.and_eq_true,decide_eq_true_eq]at hok2
    obtain⟨⟨⟨⟨k0,k1⟩,k2⟩,k3⟩,k4⟩:=hok2
    have hmb:=ij (jh n).1 (jh n).2.1
    have hev:=Hr n hn3
    rw[←uw]at hev
    rw[if_neg (by omega),Int.toNat_natCast]
    generalize jh n=ea at *
    obtain⟨la,ru,am⟩:=ea
    simp only at k1 k2 k3 k4 hmb hev ⊢
    rw[hBl]
    have hcb:p+c≤8*s.length:=by omega
    have heL:(eD (kv 64)).length=103:=by rw[Hw,uw];exact wQ
    have hev2:=fun (ti:TI) (ha:ti.agg=true) (hs:ti.size=3)=>(show iB ti ((eD (kv 64)).getD ((n:Nat):Int).toNat .top).cells 0=some (EF la ru am) by rw[hev];unfold iB;rw[ha,hs];rfl)
    by_cases hlast:8*s.length - p≤c
    ·rw[if_pos hlast]
     repeat' (first|refine aa.aD ?_|(apply aa.q true;rfl;rfl;rfl;rfl;first|exact True.intro|omega|(simp only[tn,Int.reduceToNat];omega)|(rw[hlen];omega)|(rw[heL];omega))|refine aa.eQ ( rt) ?_|refine aa.aW ?_|refine aa.ae ?_|refine aa.af ?_|refine aa.au ?_|refine aa.ai ?_|refine aa.aG ?_|refine aa.aA ?_|refine aa.aL ?_|refine aa.aK ?_|refine aa.aF ?_|(apply aa.uT;(iterate 6 rfl);exact hev2 _ rfl rfl)|intro _|(apply aa.iE;rfl)|refine aa.av ?_|refine aa.aI ?_)
     all_goals first|exact⟨rfl,rfl⟩|omega
    ·rw[if_neg hlast,wM s p c (by omega)]
     have b1:bt (aS s) ((p+c:Nat):Int).toNat=48+dz s ((p+c:Nat):Int):=by rw[Int.toNat_natCast];exact yG s (p+c) (by omega)
     have b0:=jw s ((p+c:Nat):Int)
     rcases (show dz s ((p+c:Nat):Int)=0∨dz s ((p+c:Nat):Int)=1 by omega)with h01|h01
     ·rw[h01]at b1 ⊢
      rw[show (am:Int)*(1 - 2*0)=am by omega]
      repeat' (first|refine aa.aD ?_|(apply aa.q true;rfl;rfl;rfl;rfl;first|exact True.intro|omega|(simp only[tn,Int.reduceToNat];omega)|(rw[hlen];omega)|(rw[heL];omega))|refine aa.eQ ( rt) ?_|refine aa.aW ?_|refine aa.ae ?_|refine aa.af ?_|refine aa.au ?_|refine aa.ai ?_|refine aa.aG ?_|refine aa.aA ?_|refine aa.aL ?_|refine aa.aK ?_|refine aa.aF ?_|(apply aa.uT;(iterate 6 rfl);exact hev2 _ rfl rfl)|intro _|(apply aa.iE;rfl)|refine aa.av ?_|refine aa.aI ?_)
      all_goals first|exact⟨rfl,rfl⟩|omega
     ·rw[h01]at b1 ⊢
      rw[show (am:Int)*(1 - 2*1) = -am by omega]
      repeat' (first|refine aa.aD ?_|(apply aa.q true;rfl;rfl;rfl;rfl;first|exact True.intro|omega|(simp only[tn,Int.reduceToNat];omega)|(rw[hlen];omega)|(rw[heL];omega))|refine aa.eQ ( rt) ?_|refine aa.aW ?_|refine aa.ae ?_|refine aa.af ?_|refine aa.au ?_|refine aa.ai ?_|refine aa.aG ?_|refine aa.aA ?_|refine aa.aL ?_|refine aa.aK ?_|refine aa.aF ?_|(apply aa.uT;(iterate 6 rfl);exact hev2 _ rfl rfl)|intro _|(apply aa.iE;rfl)|refine aa.av ?_|refine aa.aI ?_)
      all_goals first|exact⟨rfl,rfl⟩|omega
  ·rw[if_neg he]at rt
   rw[if_pos he]
   repeat' (first|refine aa.aD ?_|refine aa.bh true ?_|refine aa.eQ ( rt) ?_|refine aa.aW ?_|refine aa.ae ?_|refine aa.af ?_|refine aa.au ?_|refine aa.ai ?_|refine aa.aG ?_|refine aa.aA ?_|refine aa.aL ?_|refine aa.aK ?_|refine aa.aF ?_|intro _|(apply aa.iE;rfl)|refine aa.av ?_|refine aa.aI ?_)
   all_goals first|exact⟨rfl,rfl⟩|omega
end Tc
namespace Tc
open Go Bt Bl
attribute [local irreducible] aa ACalls
variable {gl:List (Nat×List D)}
theorem Md {f:Nat} {B:List Int} {a:Int} (h0:(evX B).2.1=0) (h1:¬64<a+((evX B).1.run+1)) (h2:(evX B).1.last=true):eu (f+1) B a=([(evX B).1],0,(evX B).2.2):=by
 rw[eu,if_neg (by simpa using h0),if_neg h1,if_pos h2]
theorem Mc {f:Nat} {B:List Int} {a:Int} (h0:(evX B).2.1=0) (h1:64<a+((evX B).1.run+1)):eu (f+1) B a=([],7,(evX B).2.2):=by
 rw[eu,if_neg (by simpa using h0),if_pos h1]
theorem Ma {f:Nat} {B:List Int} {a:Int} (h0:(evX B).2.1≠0):eu (f+1) B a=([],(evX B).2.1,0):=by
 rw[eu,if_pos h0]
attribute [local irreducible] evX ak eu cn nB frm
theorem oz (s:List UInt8) (p:Nat) (intra coded:Bool) (hs:s.length≤100000) (hp:p≤8*s.length):ACalls (cxg gl) 137 [S (aS s),I p,B intra,B coded] []
  (fun r H=>r = .bK [I (blX intra coded (ak s p)).1, .d (.sl 3 (cn (blX intra coded (ak s p)).2.1)),I ((p+(blX intra coded (ak s p)).2.2.2:Nat):Int),I (blX intra coded (ak s p)).2.2.1]∧H=[]):=by
 have e00:cn []=[]:=by unfold cn;rfl
 have hBl:=bY s p
 have hlen:=cZ s
 have rf:=I0 (gl:=gl) intra
 have hfb:=Hb intra
 have o8:=dQ s p 8
 have s8:((aS s).take ((p:Int)+8).toNat).drop (p:Int).toNat=((ak s p).take 8).map bM:=by
  rw[show ((p:Int)+8).toNat=p+8 by omega,Int.toNat_natCast]
  exact mJ s p 8
 have n8:=l7 (gl:=gl) (((ak s p).take 8).map bM) (by rw[List.length_map,List.length_take];omega) (all_map _ o8)
 rw[jZ _ o8,←s8]at n8
 have h3:(intra=true∧8*s.length<p+8)∨(intra=true∧¬8*s.length<p+8∧(nB ((ak s p).take 8)=0∨nB ((ak s p).take 8)=128)) ∨
   ∃dc dn,dc0 intra (ak s p)=(dc,0,dn)∧p+dn≤8*s.length∧((intra=false∧dc=0∧dn=0)∨(intra=true∧nB ((ak s p).take 8)=255∧dc=128∧dn=8∧p+8≤8*s.length) ∨
    (intra=true∧nB ((ak s p).take 8)≠0∧nB ((ak s p).take 8)≠128∧nB ((ak s p).take 8)≠255∧dc=nB ((ak s p).take 8)∧dn=8∧p+8≤8*s.length)):=by
  cases intra with
  |false=>exact .inr (.inr ⟨0,0,rfl,by omega, .inl ⟨rfl,rfl,rfl⟩⟩)
  |true =>
   by_cases c1:8*s.length<p+8
   ·exact .inl ⟨rfl,c1⟩
   ·by_cases c2:nB ((ak s p).take 8)=0∨nB ((ak s p).take 8)=128
    ·exact .inr (.inl ⟨rfl,c1,c2⟩)
    ·by_cases c3:nB ((ak s p).take 8)=255
     ·exact .inr (.inr ⟨128,8,by unfold dc0 dcX;rw[if_pos rfl,if_neg (by omega),if_neg c2,if_pos c3],by omega, .inr (.inl ⟨rfl,c3,rfl,rfl,by omega⟩)⟩)
     ·exact .inr (.inr ⟨_,8,by unfold dc0 dcX;rw[if_pos rfl,if_neg (by omega),if_neg c2,if_neg c3],by omega, .inr (.inr ⟨rfl,fun h=>c2 (.inl h),fun h=>c2 (.inr h),c3,rfl,rfl,by omega⟩)⟩)
 rcases h3 with⟨rfl,hsh⟩|⟨rfl,hsh,hz⟩|⟨dc,dn,hx,hle,h3⟩
 ·have hd:dc0 true (ak s p)=(0,2,0):=by unfold dc0 dcX;rw[if_pos rfl,if_pos (by omega)]
  have hx:blX true coded (ak s p)=(0,[],2,0):=by unfold blX;rw[hd];rfl
  rw[hx]
  simp only
  rw[e00]
  refine ACalls.en Tryz.func137 Tryz.ntmps137 ?_
  repeat' (first|refine aa.aD ?_|(apply aa.q true;rfl;rfl;rfl;rfl;first|exact True.intro|omega|(simp only[tn,Int.reduceToNat];omega)|(rw[hlen];omega))|refine aa.aW ?_|refine aa.ae ?_|refine aa.af ?_|refine aa.au ?_|refine aa.ai ?_|refine aa.aG ?_|refine aa.aA ?_|refine aa.aj ?_|refine aa.bL ?_|refine aa.bq ?_|refine aa.aK ?_|refine aa.aB ?_|refine aa.aF ?_|(apply aa.gN (.bK [I 0, .d (.sl 3 []),I p,I 2]);rfl;exact aT.bK ⟨aT.refl _,aT.d (d9.aY 3),aT.refl _,aT.refl _,trivial⟩;rfl;rfl;rfl)|apply aa.cK|intro _|refine aa.aI ?_)
  all_goals first|exact⟨rfl,rfl⟩|omega
 ·have hd:dc0 true (ak s p)=(0,7,8):=by unfold dc0 dcX;rw[if_pos rfl,if_neg (by omega),if_pos hz]
  have hx:blX true coded (ak s p)=(0,[],7,0):=by unfold blX;rw[hd];rfl
  rw[hx]
  simp only
  rw[e00]
  rcases hz with hz|hz
  all_goals
   rw[hz]at n8
   refine ACalls.en Tryz.func137 Tryz.ntmps137 ?_
   repeat' (first|refine aa.aD ?_|(apply aa.q true;rfl;rfl;rfl;rfl;first|exact True.intro|omega|(simp only[tn,Int.reduceToNat];omega)|(rw[hlen];omega))|refine aa.ah (n8) ?_|refine aa.aW ?_|refine aa.ae ?_|refine aa.af ?_|refine aa.au ?_|refine aa.ai ?_|refine aa.aG ?_|refine aa.aA ?_|refine aa.aj ?_|refine aa.bL ?_|refine aa.bq ?_|refine aa.aK ?_|refine aa.aB ?_|refine aa.aF ?_|(apply aa.gN (.bK [I 0, .d (.sl 3 []),I p,I 7]);rfl;exact aT.bK ⟨aT.refl _,aT.d (d9.aY 3),aT.refl _,aT.refl _,trivial⟩;rfl;rfl;rfl)|apply aa.cK|intro _|refine aa.aI ?_)
   all_goals first|exact⟨rfl,rfl⟩|omega
 ·unfold blX
  rw[hx]
  simp only[ne_eq,not_true_eq_false,if_false]
  cases coded with
  |false =>
   simp only[Bool.false_eq_true,if_false]
   rw[e00]
   rcases h3 with⟨rfl,rfl,rfl⟩|⟨rfl,hv,rfl,rfl,hp8⟩|⟨rfl,hv0,hv1,hv2,hdc,rfl,hp8⟩
   ·refine ACalls.en Tryz.func137 Tryz.ntmps137 ?_
    repeat' (first|refine aa.aD ?_|refine aa.bh true ?_|refine aa.ah (rf) ?_|refine aa.aW ?_|refine aa.ae ?_|refine aa.af ?_|refine aa.au ?_|refine aa.ai ?_|refine aa.aG ?_|refine aa.aA ?_|refine aa.aj ?_|refine aa.bL ?_|refine aa.bq ?_|refine aa.aK ?_|refine aa.aB ?_|refine aa.aF ?_|(apply aa.gN (.bK [I 0, .d (.sl 3 []),I p,I 0]);rfl;exact aT.bK ⟨aT.refl _,aT.d (d9.aY 3),aT.refl _,aT.refl _,trivial⟩;rfl;rfl;rfl)|apply aa.cK|intro _|refine aa.aI ?_)
    all_goals first|exact⟨rfl,rfl⟩|omega
   ·rw[hv]at n8
    refine ACalls.en Tryz.func137 Tryz.ntmps137 ?_
    repeat' (first|refine aa.aD ?_|(apply aa.q true;rfl;rfl;rfl;rfl;first|exact True.intro|omega|(simp only[tn,Int.reduceToNat];omega)|(rw[hlen];omega))|refine aa.ah (n8) ?_|refine aa.ah (rf) ?_|refine aa.aW ?_|refine aa.ae ?_|refine aa.af ?_|refine aa.au ?_|refine aa.ai ?_|refine aa.aG ?_|refine aa.aA ?_|refine aa.aj ?_|refine aa.bL ?_|refine aa.bq ?_|refine aa.aK ?_|refine aa.aB ?_|refine aa.aF ?_|(apply aa.gN (.bK [I 128, .d (.sl 3 []),I ((p:Int)+8),I 0]);rfl;exact aT.bK ⟨aT.refl _,aT.d (d9.aY 3),aT.refl _,aT.refl _,trivial⟩;rfl;rfl;rfl)|apply aa.cK|intro _|refine aa.aI ?_)
    all_goals first|exact⟨rfl,rfl⟩|omega
   ·rw[←hdc]at n8 hv0 hv1 hv2
    refine ACalls.en Tryz.func137 Tryz.ntmps137 ?_
    repeat' (first|refine aa.aD ?_|(apply aa.q true;rfl;rfl;rfl;rfl;first|exact True.intro|omega|(simp only[tn,Int.reduceToNat];omega)|(rw[hlen];omega))|refine aa.ah (n8) ?_|refine aa.ah (rf) ?_|refine aa.aW ?_|refine aa.ae ?_|refine aa.af ?_|refine aa.au ?_|refine aa.ai ?_|refine aa.aG ?_|refine aa.aA ?_|refine aa.aj ?_|refine aa.bL ?_|refine aa.bq ?_|refine aa.aK ?_|refine aa.aB ?_|refine aa.aF ?_|(apply aa.gN (.bK [I dc, .d (.sl 3 []),I ((p:Int)+8),I 0]);rfl;exact aT.bK ⟨aT.refl _,aT.d (d9.aY 3),aT.refl _,aT.refl _,trivial⟩;rfl;rfl;rfl)|apply aa.cK|intro _|refine aa.aI ?_)
    all_goals first|exact⟨rfl,rfl⟩|omega
  |true =>
   simp only[if_true]
   rw[bX]
   have hc0:=HQ (eu 66 (ak s (p+dn)) (frm intra:Nat)) (Aq _ _ _)
   generalize hR:eu 66 (ak s (p+dn)) (frm intra:Nat)=R at *
   generalize ha0:((frm intra:Nat):Int)=a0 at *
   have rt:=fun q hq=>F4 (gl:=gl) s q hs hq
   have hOe:R.2.1≠0→(if ¬R.2.1=0 then ((0:Int),([]:List Ev),R.2.1,(0:Nat)) else (dc,R.1,0,dn+R.2.2))=(0,[],R.2.1,0):=fun h=>if_pos h
   have hOk:R.2.1=0→(if ¬R.2.1=0 then ((0:Int),([]:List Ev),R.2.1,(0:Nat)) else (dc,R.1,0,dn+R.2.2))=(dc,R.1,0,dn+R.2.2):=fun h=>if_neg (fun k=>k h)
   generalize (if ¬R.2.1=0 then ((0:Int),([]:List Ev),R.2.1,(0:Nat)) else (dc,R.1,0,dn+R.2.2))=O at *
   rcases h3 with⟨rfl,hdc,hdn⟩|⟨rfl,hv,hdc,hdn,hp8⟩|⟨rfl,hv0,hv1,hv2,hdc,hdn,hp8⟩
   all_goals
    first|rw[hv]at n8|rw[←hdc]at n8 hv0 hv1 hv2|skip
    refine ACalls.en Tryz.func137 Tryz.ntmps137 ?_
    repeat (first|refine aa.aD ?_|(apply aa.q true;rfl;rfl;rfl;rfl;first|exact True.intro|omega|(simp only[tn,Int.reduceToNat];omega)|(rw[hlen];omega))|refine aa.ah (n8) ?_|refine aa.ah (rf) ?_|refine aa.aW ?_|refine aa.ae ?_|refine aa.af ?_|refine aa.au ?_|refine aa.ai ?_|refine aa.aG ?_|refine aa.aA ?_|refine aa.aj ?_|refine aa.bL ?_|refine aa.bq ?_|refine aa.aK ?_|refine aa.aB ?_|refine aa.aF ?_|refine aa.Ah 14 235 3 ?_|(apply aa.oJ 14;rfl;rfl;(first|rfl|(simp only[List.length_append,List.length_map,List.length_set,List.length_replicate,List.length_cons,List.length_nil];omega)|(rw[hlen];omega));simp only[List.set_cons_zero,List.set_cons_succ]))
    refine aa.weak (env':=[(15,I (a0 - 1)),(14, .own 3 (cn []) 0),(13,I ((p+dn+0:Nat):Int)),(12,I dc),(3,B true),(1,I p),(0,S (aS s))])
     ⟨rfl,by rw[e00];rfl,congrArg I (by omega),by first|rfl|(rw[hdc];rfl),rfl,rfl,rfl,trivial⟩ ?_
    refine aa.loop (fun m env H=>∃(acc:List Ev) (q:Nat) (a:Int) (cd:Bool),p+dn+q≤8*s.length∧(0≤a∧a≤64)∧(acc.length:Int)≤a ∧
     ((cd=true∧∃f:Nat,m=f+1∧65 - a<f∧yA acc q (eu f (ak s (p+dn+q)) a)=R)∨(cd=false∧m=0∧R=(acc,0,q))) ∧
     env=[(15,I (a - 1)),(14, .own 3 (cn acc) 0),(13,I ((p+dn+q:Nat):Int)),(12,I dc),(3,B cd),(1,I p),(0,S (aS s))]∧H=[.front 235 3 (cn acc).length]) 67
     ⟨[],0,a0,true,by omega,by omega,by simp;omega, .inl ⟨rfl,66,rfl,by omega,by rw[Nat.add_zero,hR];exact hc0⟩,rfl,by first|(rw[e00];done)|(rw[e00];rfl)⟩ ?_
    rintro m env H ⟨acc,q,a,cd,hq,ha,hacc,hcd,rfl,rfl⟩
    rcases hcd with⟨rfl,f,rfl,hf,hm⟩|⟨rfl,rfl,hR2⟩
    ·obtain⟨f,rfl⟩:∃g,f=g+1:=⟨f - 1,by omega⟩
     have tk:=rt (p+dn+q) hq
     have hB:=cO s (p+dn+q)
     have hal:=nT acc
     by_cases h0:(evX (ak s (p+dn+q))).2.1=0
     ·have hrun:=Dn hB h0
      have hle2:=xK s (p+dn+q) hq h0
      by_cases h1:64<a+((evX (ak s (p+dn+q))).1.run+1)
      ·rw[Mc h0 h1]at hm
       have hm2:R=([],7,q+(evX (ak s (p+dn+q))).2.2):=by rw[←hm];rfl
       rw[hOe (by rw[hm2];exact (by decide:(7:Int)≠0)),hm2]
       generalize evX (ak s (p+dn+q))=x at *
       obtain⟨⟨la,ru,le⟩,er,c⟩:=x
       simp only at h0 h1 hrun tk
       subst h0
       simp only
       rw[e00]
       repeat' (first|refine aa.aD ?_|refine aa.bh true ?_|refine aa.ah (tk) ?_|refine aa.aW ?_|refine aa.ae ?_|refine aa.af ?_|refine aa.au ?_|refine aa.ai ?_|refine aa.aG ?_|refine aa.aA ?_|refine aa.aj ?_|refine aa.bL ?_|refine aa.bq ?_|refine aa.aK ?_|refine aa.aB ?_|refine aa.aF ?_|(apply aa.kU (.bK [I 0, .d (.sl 3 []),I p,I 7]);rfl;exact aT.bK ⟨aT.refl _,aT.d (d9.aY 3),aT.refl _,aT.refl _,trivial⟩;rfl;rfl;rfl)|intro _|refine aa.aI ?_)
       all_goals first|exact⟨rfl,rfl⟩|omega
      ·cases h2:(evX (ak s (p+dn+q))).1.last with
       |true =>
        rw[Md h0 h1 h2]at hm
        have hm2:R=(acc++[(evX (ak s (p+dn+q))).1],0,q+(evX (ak s (p+dn+q))).2.2):=by rw[←hm];rfl
        have eA:=qI acc (evX (ak s (p+dn+q))).1
        generalize evX (ak s (p+dn+q))=x at *
        obtain⟨⟨la,ru,le⟩,er,c⟩:=x
        simp only at h0 h1 h2 hrun tk eA hm2 hle2
        subst h0
        subst h2
        repeat' (first|refine aa.aD ?_|(apply aa.append;(iterate 11 rfl);(first|rfl|(simp only[List.length_append,List.length_map,List.length_cons,List.length_nil];omega));(first|(simp only[List.length_append,List.length_map,List.length_cons,List.length_nil];omega)|(rw[hal];omega));simp only[List.set_cons_zero,List.set_cons_succ])|(apply aa.q true;rfl;rfl;rfl;rfl;first|exact True.intro|omega|(simp only[tn,Int.reduceToNat];omega)|(rw[hal];omega))|refine aa.ah (tk) ?_|refine aa.aW ?_|refine aa.ae ?_|refine aa.af ?_|refine aa.au ?_|refine aa.ai ?_|refine aa.aG ?_|refine aa.aA ?_|refine aa.aj ?_|refine aa.bL ?_|refine aa.bq ?_|refine aa.aK ?_|refine aa.aB ?_|refine aa.aF ?_|intro _|refine aa.aI ?_)
        all_goals first
         |exact aa.jk 1 [(15,I (a+(ru+1) - 1)),(14, .own 3 (cn (acc++[⟨true,ru,le⟩])) 0),(13,I ((p+dn+(q+c):Nat):Int)),(12,I dc),(3,B false),(1,I p),(0,S (aS s))] 0 (by omega) rfl rfl rfl rfl
           ⟨congrArg I (by omega),by rw[eA];rfl,congrArg I (by omega),rfl,rfl,rfl,rfl,trivial⟩ ⟨acc++[⟨true,ru,le⟩],q+c,a+(ru+1),false,by omega,by omega,by rw[List.length_append];simp;omega, .inr ⟨rfl,rfl,hm2⟩,rfl,by first|(rw[eA];done)|(rw[eA];rfl)⟩
         |omega
       |false =>
        rw[wS h0 h1 h2,bX,Nat.add_assoc (p+dn)]at hm
        have eA:=qI acc (evX (ak s (p+dn+q))).1
        generalize evX (ak s (p+dn+q))=x at *
        obtain⟨⟨la,ru,le⟩,er,c⟩:=x
        simp only at h0 h1 h2 hrun tk eA hm hle2
        subst h0
        subst h2
        repeat' (first|refine aa.aD ?_|(apply aa.append;(iterate 11 rfl);(first|rfl|(simp only[List.length_append,List.length_map,List.length_cons,List.length_nil];omega));(first|(simp only[List.length_append,List.length_map,List.length_cons,List.length_nil];omega)|(rw[hal];omega));simp only[List.set_cons_zero,List.set_cons_succ])|(apply aa.q true;rfl;rfl;rfl;rfl;first|exact True.intro|omega|(simp only[tn,Int.reduceToNat];omega)|(rw[hal];omega))|refine aa.ah (tk) ?_|refine aa.aW ?_|refine aa.ae ?_|refine aa.af ?_|refine aa.au ?_|refine aa.ai ?_|refine aa.aG ?_|refine aa.aA ?_|refine aa.aj ?_|refine aa.bL ?_|refine aa.bq ?_|refine aa.aK ?_|refine aa.aB ?_|refine aa.aF ?_|intro _|refine aa.aI ?_)
        all_goals first
         |exact aa.jk 1 [(15,I (a+(ru+1) - 1)),(14, .own 3 (cn (acc++[⟨false,ru,le⟩])) 0),(13,I ((p+dn+(q+c):Nat):Int)),(12,I dc),(3,B true),(1,I p),(0,S (aS s))] (f+1) (by omega) rfl rfl rfl rfl
           ⟨congrArg I (by omega),by rw[eA];rfl,congrArg I (by omega),rfl,rfl,rfl,rfl,trivial⟩ ⟨acc++[⟨false,ru,le⟩],q+c,a+(ru+1),true,by omega,by omega,by rw[List.length_append];simp;omega, .inl ⟨rfl,f,rfl,by omega,hm⟩,rfl,by first|(rw[eA];done)|(rw[eA];rfl)⟩
         |omega
     ·rw[Ma h0]at hm
      obtain⟨u1,u2⟩:=(vg hB).2 h0
      have hm2:R=([],(evX (ak s (p+dn+q))).2.1,q+0):=by rw[←hm];unfold yA;rw[if_pos h0]
      rw[hOe (by rw[hm2];exact h0),hm2]
      generalize evX (ak s (p+dn+q))=x at *
      obtain⟨⟨la,ru,le⟩,er,c⟩:=x
      simp only at h0 tk u1
      subst u1
      simp only
      rw[e00]
      repeat' (first|refine aa.aD ?_|refine aa.bh true ?_|refine aa.ah (tk) ?_|refine aa.aW ?_|refine aa.ae ?_|refine aa.af ?_|refine aa.au ?_|refine aa.ai ?_|refine aa.aG ?_|refine aa.aA ?_|refine aa.aj ?_|refine aa.bL ?_|refine aa.bq ?_|refine aa.aK ?_|refine aa.aB ?_|refine aa.aF ?_|(apply aa.kU (.bK [I 0, .d (.sl 3 []),I p,I er]);rfl;exact aT.bK ⟨aT.refl _,aT.d (d9.aY 3),aT.refl _,aT.refl _,trivial⟩;rfl;rfl;rfl)|intro _|refine aa.aI ?_)
      all_goals first|exact⟨rfl,rfl⟩|omega
    ·rw[hOk (by rw[hR2]),hR2]
     simp only
     rw[←Nat.add_assoc]
     repeat' (first|refine aa.aD ?_|refine aa.bh true ?_|refine aa.aW ?_|refine aa.ae ?_|refine aa.af ?_|refine aa.au ?_|refine aa.ai ?_|refine aa.aG ?_|refine aa.aA ?_|refine aa.aj ?_|refine aa.bL ?_|refine aa.bq ?_|refine aa.aK ?_|refine aa.aB ?_|refine aa.aF ?_|(apply aa.gN (.bK [I dc, .d (.sl 3 (cn acc)),I ((p+dn+q:Nat):Int),I 0]);rfl;exact aT.bK ⟨aT.refl _,aT.own _ _ _,aT.refl _,aT.refl _,trivial⟩;rfl;rfl;rfl)|intro _|refine aa.aI ?_)
     all_goals first|exact⟨rfl,rfl⟩|omega
end Tc
end Go.Proofs.YtbpednchkndocaaGreatDoor.Av
