/- cbpy: the rows, Row. cbpy, plain: the reference's rows, told backwards, say the same. cbpy: the walks of the reference's Row and Take, and of Take. cbpy: the walk of Take. The laws of cbpy. -/
import Derived.Test.YtbpednchkndocaaGreatDoorPg
set_option linter.unusedVariables false
set_option linter.unusedSimpArgs false
set_option maxRecDepth 100000
set_option maxHeartbeats 64000000
namespace Go.Proofs.YtbpednchkndocaaGreatDoor.Av
namespace Cb
open Go Bt
attribute [local irreducible] aa ACalls
variable {gl:List (Nat×List D)}
def cbR:List (List UInt8):=[[48,48,49,49],[48,48,49,48,49],[48,48,49,48,48],[49,48,48,49],[48,48,48,49,49],[48,49,49,49],[48,48,48,48,49,48],[49,48,49,49],[48,48,48,49,48],[48,48,48,48,49,49],[48,49,48,49],[49,48,49,48],[48,49,48,48],[49,48,48,48],[48,49,49,48],[49,49]]
def trn (b:Bool) (p:Int):Int:=if b=true then p else 15 - p
def qR (b:Bool) (p:Int):List UInt8:=if p<0∨15<p then [] else cbR.getD (trn b p).toNat []
theorem JO:ACalls (cxg gl) 211 [] [] (fun r H=>r = .d (.agg (cbR.map .str))∧H=[]):=by
 refine ACalls.en Tryz.func211 Tryz.ntmps211 ?_
 repeat' (first|refine aa.aD ?_|refine aa.aG ?_|refine aa.aA ?_|refine aa.aL ?_|intro _|refine aa.av ?_)
 all_goals first|exact⟨rfl,rfl⟩
theorem Ff (b:Bool) (p:Int) (h:0≤p∧p≤15):ACalls (cxg gl) 212 [B b,I p] [] (fun r H=>r=I (trn b p)∧H=[]):=by
 cases b
 ·refine ACalls.en Tryz.func212 Tryz.ntmps212 ?_
  repeat' (first|refine aa.aD ?_|refine aa.bh true ?_|refine aa.au ?_|refine aa.ai ?_|intro _|refine aa.av ?_)
  all_goals first|exact⟨rfl,rfl⟩
 ·refine ACalls.en Tryz.func212 Tryz.ntmps212 ?_
  repeat' (first|refine aa.aD ?_|refine aa.bh true ?_|refine aa.au ?_|refine aa.ai ?_|intro _|refine aa.av ?_)
  all_goals first|exact⟨rfl,rfl⟩
def cbV:List (List UInt8):=cbR.reverse
theorem uG:ACalls (cxg gl) 203 [] [] (fun r H=>r = .d (.sl 1 (bE cbV))∧H=[]):=by
 unfold bE
 refine ACalls.en Tryz.func203 Tryz.ntmps203 ?_
 repeat' (first|refine aa.aD ?_|refine aa.bh true ?_|refine aa.aF ?_|intro _|refine aa.av ?_)
 all_goals first|exact⟨rfl,rfl⟩
theorem Fg (b:Bool) (p:Int) (h:0≤p∧p≤15):0≤trn b p∧trn b p≤15:=by unfold trn;split<;>omega
theorem H3 (b:Bool) (p:Int) (h:0≤p∧p≤15):qR b p=cbR.getD (trn b p).toNat []:=by unfold qR;rw[if_neg (by omega)]
attribute [local irreducible] bE cbV cbR
end Cb
namespace Cb
open Go Bt Px
theorem rN (w:List UInt8):∀(l:List (List UInt8)) (i:Nat),w∉l→gu w l i=none
 |[],i,h=>rfl
 |r::l,i,h=>by
  simp only[List.mem_cons,not_or]at h
  rw[gu,if_neg (fun e=>h.1 e.symm),rN w l _ h.2]
theorem L8 (w:List UInt8):gu w cbV 0=(gu w cbR 0).map (15 - ·):=by
 by_cases hw:w∈cbR
 ·have:∀x∈cbR,gu x cbV 0=(gu x cbR 0).map (15 - ·):=by decide +kernel
  exact this w hw
 ·rw[rN w _ _ hw,rN w cbV _ (by unfold cbV;simpa using hw)];rfl
theorem NZ (p:List UInt8→Bool):cbV.any p=cbR.any p:=by unfold cbV;simp
def Lh (x:Int×Int×Nat):Int×Int×Nat:=(if x.2.1=0 then 15 - x.1 else x.1,x.2)
theorem FP:∀(D w:List UInt8),cV cbV D w=Lh (cV cbR D w)
 |[],w=>rfl
 |x::r,w=>by
  have hlt:∀i,gu (w++[x]) cbR 0=some i→i≤15:=fun i h=>by
   have:=tQ _ _ _ _ h
   have hl:cbR.length=16:=rfl
   omega
  rw[cV,cV,iH,iH,L8,NZ]
  cases hf:gu (w++[x]) cbR 0 with
  |some i =>
   have:=hlt i hf
   simp only[Option.map_some,Lh]
   rw[if_pos trivial,Int.natCast_sub this];rfl
  |none =>
   simp only[Option.map_none]
   by_cases ha:cbR.any (fun r=>(w++[x]).isPrefixOf r)=true
   ·rw[if_pos ha]
    exact FP r (w++[x])
   ·rw[if_neg ha];rfl
def vS (b:Bool):List (List UInt8×Int):=cbR.zipIdx.map fun x=>(x.1,trn b (x.2:Int))
def cbT (b:Bool):Tb:=(mk (vS b) tb0).getD tb0
theorem H0 (b:Bool):mk (vS b) tb0=some (cbT b):=by
 have:(mk (vS b) tb0).isSome=true:=by cases b<;>decide +kernel
 unfold cbT
 cases h:mk (vS b) tb0 with
 |none=>rw[h]at this;cases this
 |some T=>rfl
theorem Cc (b:Bool):sZ (cbT b) (vS b):=Gs (H0 b)
theorem ES (b:Bool):(vS b).map (·.1)=cbR:=by cases b<;>rfl
theorem JX (b:Bool) (i:Nat) (h:i<16):lF (cbT b) i=trn b i:=by
 unfold lF
 rw[(Cc b).codes]
 have hl:∀b,∀i:_root_.Fin 16,((vS b).getD i.val ([],0)).2=trn b i.val:=by decide +kernel
 exact hl b ⟨i,h⟩
def cbX (b:Bool) (Dg:List UInt8):Int×Int×Nat:=(if (cV cbR Dg []).2.1=0 then trn b (cV cbR Dg []).1 else 0,(cV cbR Dg []).2)
theorem JV (b:Bool) (Dg:List UInt8):mV (cbT b) Dg []=cbX b Dg:=by
 rw[pz (Cc b),ES]
 unfold cbX
 have hb:=iR cbR Dg []
 have hl:cbR.length=16:=rfl
 rw[hl]at hb
 by_cases he:(cV cbR Dg []).2.1=0
 ·rw[if_pos he,if_pos he]
  obtain⟨h0,h1⟩:=hb he
  obtain⟨n,hn⟩:=Int.eq_ofNat_of_zero_le h0
  rw[hn,JX b n (by omega)]
 ·rw[if_neg he,if_neg he]
theorem wX:∀r∈cbV,r.length≤24:=by decide
theorem Mx (b:Bool) (L:List UInt8) (p:Nat) (hp:p≤L.length) :
  (fun x:Int×Int×Int=>(if x.2.2=0∧b=true then 15 - x.1 else x.1,x.2.1,x.2.2)) (t5 cbV L p 25 1)=((cbX b (L.drop p)).1,((qm p (cbX b (L.drop p)):Nat):Int),(cbX b (L.drop p)).2.1):=by
 rw[rA cbV L p wX hp,FP]
 unfold cbX Lh oU qm
 generalize cV cbR (L.drop p) []=y
 obtain⟨i,e,c⟩:=y
 by_cases he:e=0
 ·subst he
  cases b
  ·simp[trn]
  ·simp[trn];omega
 ·simp[he]
end Cb
namespace Cb
open Go Bt Px
attribute [local irreducible] aa ACalls
variable {gl:List (Nat×List D)}
attribute [local irreducible] bE cbV cbR
theorem F6 (b:Bool) (L:List UInt8) (p:Nat) (hL:L.length≤1000000) (hp:p≤L.length) :
  ACalls (cxg gl) 133 [S L,I p,B b] [] (fun r H=>r=Tri ((cbX b (L.drop p)).1,((qm p (cbX b (L.drop p)):Nat):Int),(cbX b (L.drop p)).2.1)∧H=[]):=by
 have ht:=tz (gl:=gl) cbV L p (by unfold cbV cbR;decide) hL (by omega)
 have hr:=Mx b L p hp
 have hbd:(t5 cbV L p 25 1).2.2=0→0≤(t5 cbV L p 25 1).1∧(t5 cbV L p 25 1).1≤15:=by
  rw[rA cbV L p wX hp]
  intro h
  have:=iR cbV (L.drop p) []
  rw[show cbV.length=16 by unfold cbV cbR;rfl]at this
  unfold oU at h ⊢
  split at h
  ·rename_i he
   rw[if_pos he];have:=this he;simp only;omega
  ·rename_i he;exact absurd h he
 rw[←hr]
 generalize t5 cbV L p 25 1=y at *
 obtain⟨k,t,e⟩:=y
 simp only at hbd
 show ACalls (cxg gl) 133 [S L,I p,B b] [] (fun r H=>r=Tri (if e=0∧b=true then 15 - k else k,t,e)∧H=[])
 by_cases he:e=0
 ·have hb:=hbd he
  subst he
  cases b
  ·refine ACalls.en Tryz.func133 Tryz.ntmps133 ?_
   repeat' (first|refine aa.aD ?_|refine aa.bh true ?_|refine aa.ah (uG) ?_|refine aa.ah (ht) ?_|refine aa.au ?_|refine aa.ai ?_|refine aa.aj ?_|refine aa.bq ?_|refine aa.aB ?_|intro _|refine aa.av ?_)
   all_goals first|exact⟨rfl,rfl⟩|omega
  ·refine ACalls.en Tryz.func133 Tryz.ntmps133 ?_
   repeat' (first|refine aa.aD ?_|refine aa.bh true ?_|refine aa.ah (uG) ?_|refine aa.ah (ht) ?_|refine aa.au ?_|refine aa.ai ?_|refine aa.aj ?_|refine aa.bq ?_|refine aa.aB ?_|intro _|refine aa.av ?_)
   all_goals first|exact⟨rfl,rfl⟩|omega
 ·rw[if_neg (fun h=>he h.1)]
  refine ACalls.en Tryz.func133 Tryz.ntmps133 ?_
  repeat' (first|refine aa.aD ?_|refine aa.bh true ?_|refine aa.ah (uG) ?_|refine aa.ah (ht) ?_|refine aa.au ?_|refine aa.ai ?_|refine aa.aj ?_|refine aa.bq ?_|refine aa.aB ?_|intro _|refine aa.av ?_)
  all_goals first|exact⟨rfl,rfl⟩|omega
end Cb
namespace Cb
open Go Bt Px
attribute [local irreducible] aa ACalls
variable {gl:List (Nat×List D)}
theorem cbL (b:Bool):bG (vS b)=(cbR.zipIdx.map fun x=>D.agg [.str x.1, .int .i64 (trn b (x.2:Int))]):=by
 unfold bG vS
 rw[List.map_map];rfl
theorem tr0 (b:Bool) (k:Nat) (h:k≤15):ACalls (cxg gl) 212 [B b,I (k:Int)] [] (fun r H=>r=I (trn b (k:Int))∧H=[]):=Ff b k (by omega)
attribute [local irreducible] trn cbT cbX ak qm
theorem JN (b:Bool) (s:List UInt8) (p:Nat) (hs:s.length≤1000000) (hp:p≤8*s.length):ACalls (cxg gl) 292 [.ptr 0 0,B b] [Rd s p]
  (fun r H=>r = .bK [I (cbX b ((ak s p).map bM)).1,I (cbX b ((ak s p).map bM)).2.1]∧H=[Rd s (qm p (cbX b ((ak s p).map bM)))]):=by
 have t:=fun (k:Nat) (h:k≤15)=>tr0 (gl:=gl) b k h
 have rc:=JO (gl:=gl)
 unfold cbR at rc
 have mk:=CZ (gl:=gl) (vS b) (cbR.getD 0 [],trn b 0) (cbT b) rfl (by cases b<;>decide) (by cases b<;>decide) (H0 b)
 have tt:=Cm (gl:=gl) (cbT b) s p hs hp (Cc b).Ke
 rw[JV]at tt
 generalize cbX b ((ak s p).map bM)=X at *
 rw[cbL]at mk
 unfold DV at mk
 refine ACalls.en Tryz.func292 Tryz.ntmps292 ?_
 repeat' (first|refine aa.aD ?_|(apply aa.Nt;(iterate 9 rfl);(first|decide|(dsimp only;omega)|(decide));simp only[Int.reduceToNat,List.replicate_zero,List.length_nil,List.length_cons,Nat.reduceAdd,List.nil_append,List.cons_append])|(apply aa.append;(iterate 11 rfl);(first|rfl|(simp only[List.length_append,List.length_map,List.length_cons,List.length_nil];omega));(first|(simp only[List.length_append,List.length_map,List.length_cons,List.length_nil];omega)|(decide));simp only[List.set_cons_zero,List.set_cons_succ])|(apply aa.q true;rfl;rfl;rfl;rfl;first|exact True.intro|omega|(simp only[tn,Int.reduceToNat];omega)|(decide))|refine aa.az [2,3,4,5,0,8] ( tt) ?_|refine aa.AB [] ( mk) ?_|refine aa.ah (rc) ?_|refine aa.ah (t 0 (by decide)) ?_|refine aa.ah (t 1 (by decide)) ?_|refine aa.ah (t 2 (by decide)) ?_|refine aa.ah (t 3 (by decide)) ?_|refine aa.ah (t 4 (by decide)) ?_|refine aa.ah (t 5 (by decide)) ?_|refine aa.ah (t 6 (by decide)) ?_|refine aa.ah (t 7 (by decide)) ?_|refine aa.ah (t 8 (by decide)) ?_|refine aa.ah (t 9 (by decide)) ?_|refine aa.ah (t 10 (by decide)) ?_|refine aa.ah (t 11 (by decide)) ?_|refine aa.ah (t 12 (by decide)) ?_|refine aa.ah (t 13 (by decide)) ?_|refine aa.ah (t 14 (by decide)) ?_|refine aa.ah (t 15 (by decide)) ?_|refine aa.aW ?_|refine aa.ae ?_|refine aa.af ?_|refine aa.aL ?_|refine aa.aF ?_|apply aa.cK|apply aa.lpU|intro _|refine aa.av ?_)
 all_goals first|exact⟨rfl,rfl⟩
end Cb
namespace Cb
open Go Bt Px
attribute [local irreducible] aa ACalls
variable {gl:List (Nat×List D)}
theorem Iw (b:Bool) (p:Int):trn b (trn b p)=p:=by cases b<;>simp[trn];omega
attribute [local irreducible] trn cbT cbX ak qm qR aS dx
end Cb
end Go.Proofs.YtbpednchkndocaaGreatDoor.Av
