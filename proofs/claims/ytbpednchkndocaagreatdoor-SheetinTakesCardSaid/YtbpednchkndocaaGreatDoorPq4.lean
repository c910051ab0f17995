/- cbpy: the rows, Row. cbpy, plain: the reference's rows, told backwards, say the same. cbpy: the walks of the reference's Row and Take, and of Take. cbpy: the walk of Take. The laws of cbpy. -/
import Derived.Test.YtbpednchkndocaaGreatDoorPg
set_option linter.unusedVariables false
set_option linter.unusedSimpArgs false
set_option maxRecDepth 100000
set_option maxHeartbeats 64000000
namespace Go.Proofs.YtbpednchkndocaaGreatDoor.Av
namespace Cb
open Go Bt
attribute [local irreducible] aa ACalls
variable {gl:List (Nat×List D)}
def cbR:List (List UInt8):=[[48,48,49,49],[48,48,49,48,49],[48,48,49,48,48],[49,48,48,49],[48,48,48,49,49],[48,49,49,49],[48,48,48,48,49,48],[49,48,49,49],[48,48,48,49,48],[48,48,48,48,49,49],[48,49,48,49],[49,48,49,48],[48,49,48,48],[49,48,48,48],[48,49,49,48],[49,49]]
def trn (b:Bool) (p:Int):Int:=if b=true then p else 15 - p
def ql (b:Bool) (p:Int):List UInt8:=if p<0∨15<p then [] else cbR.getD (trn b p).toNat []
theorem JL:ACalls (cxg gl) 211 [] [] (fun r H=>r = .d (.agg (cbR.map .str))∧H=[]):=by
 refine ACalls.en Tryz.func211 Tryz.ntmps211 ?_
 repeat' (first|intro _|refine aa.bA ?_)
 all_goals first|exact⟨rfl,rfl⟩
theorem ER (b:Bool) (p:Int) (h:0≤p∧p≤15):ACalls (cxg gl) 212 [B b,I p] [] (fun r H=>r=I (trn b p)∧H=[]):=by
 cases b
 ·refine ACalls.en Tryz.func212 Tryz.ntmps212 ?_
  repeat' (first|intro _|refine aa.bA ?_)
  all_goals first|exact⟨rfl,rfl⟩
 ·refine ACalls.en Tryz.func212 Tryz.ntmps212 ?_
  repeat' (first|intro _|refine aa.bA ?_)
  all_goals first|exact⟨rfl,rfl⟩
def cbV:List (List UInt8):=cbR.reverse
theorem tY:ACalls (cxg gl) 203 [] [] (fun r H=>r = .d (.sl 1 (aS cbV))∧H=[]):=by
 unfold aS
 refine ACalls.en Tryz.func203 Tryz.ntmps203 ?_
 repeat' (first|intro _|refine aa.bA ?_)
 all_goals first|exact⟨rfl,rfl⟩
theorem ES (b:Bool) (p:Int) (h:0≤p∧p≤15):0≤trn b p∧trn b p≤15:=by unfold trn;split<;>omega
theorem HF (b:Bool) (p:Int) (h:0≤p∧p≤15):ql b p=cbR.getD (trn b p).toNat []:=by unfold ql;rw[if_neg (by omega)]
attribute [local irreducible] aS cbV cbR
end Cb
namespace Cb
open Go Bt Px
theorem qO (w:List UInt8):∀(l:List (List UInt8)) (i:Nat),w∉l→fq w l i=none
 |[],i,h=>rfl
 |r::l,i,h=>by
  simp only[List.mem_cons,not_or]at h
  rw[fq,if_neg (fun e=>h.1 e.symm),qO w l _ h.2]
theorem L8 (w:List UInt8):fq w cbV 0=(fq w cbR 0).map (15 - ·):=by
 by_cases hw:w∈cbR
 ·have:∀x∈cbR,fq x cbV 0=(fq x cbR 0).map (15 - ·):=by decide +kernel
  exact this w hw
 ·rw[qO w _ _ hw,qO w cbV _ (by unfold cbV;simpa using hw)];rfl
theorem Oa (p:List UInt8→Bool):cbV.any p=cbR.any p:=by unfold cbV;simp
def Lf (x:Int×Int×Nat):Int×Int×Nat:=(if x.2.1=0 then 15 - x.1 else x.1,x.2)
theorem FA:∀(D w:List UInt8),bV cbV D w=Lf (bV cbR D w)
 |[],w=>rfl
 |x::r,w=>by
  have hlt:∀i,fq (w++[x]) cbR 0=some i→i≤15:=fun i h=>by
   have:=sN _ _ _ _ h
   have hl:cbR.length=16:=rfl
   omega
  rw[bV,bV,gN,gN,L8,Oa]
  cases hf:fq (w++[x]) cbR 0 with
  |some i =>
   have:=hlt i hf
   simp only[Option.map_some,Lf]
   rw[if_pos trivial,Int.natCast_sub this];rfl
  |none =>
   simp only[Option.map_none]
   by_cases ha:cbR.any (fun r=>(w++[x]).isPrefixOf r)=true
   ·rw[if_pos ha]
    exact FA r (w++[x])
   ·rw[if_neg ha];rfl
def vn (b:Bool):List (List UInt8×Int):=cbR.zipIdx.map fun x=>(x.1,trn b (x.2:Int))
def cbT (b:Bool):Tb:=(mk (vn b) tb0).getD tb0
theorem HE (b:Bool):mk (vn b) tb0=some (cbT b):=by
 have:(mk (vn b) tb0).isSome=true:=by cases b<;>decide +kernel
 unfold cbT
 cases h:mk (vn b) tb0 with
 |none=>rw[h]at this;cases this
 |some T=>rfl
theorem BB (b:Bool):rU (cbT b) (vn b):=Gf (HE b)
theorem EB (b:Bool):(vn b).map (·.1)=cbR:=by cases b<;>rfl
theorem JU (b:Bool) (i:Nat) (h:i<16):kE (cbT b) i=trn b i:=by
 unfold kE
 rw[(BB b).codes]
 have hl:∀b,∀i:_root_.Fin 16,((vn b).getD i.val ([],0)).2=trn b i.val:=by decide +kernel
 exact hl b ⟨i,h⟩
def cbX (b:Bool) (Dg:List UInt8):Int×Int×Nat:=(if (bV cbR Dg []).2.1=0 then trn b (bV cbR Dg []).1 else 0,(bV cbR Dg []).2)
theorem JR (b:Bool) (Dg:List UInt8):lX (cbT b) Dg []=cbX b Dg:=by
 rw[oq (BB b),EB]
 unfold cbX
 have hb:=ib cbR Dg []
 have hl:cbR.length=16:=rfl
 rw[hl]at hb
 by_cases he:(bV cbR Dg []).2.1=0
 ·rw[if_pos he,if_pos he]
  obtain⟨h0,h1⟩:=hb he
  obtain⟨n,hn⟩:=Int.eq_ofNat_of_zero_le h0
  rw[hn,JU b n (by omega)]
 ·rw[if_neg he,if_neg he]
theorem wz:∀r∈cbV,r.length≤24:=by decide
theorem Mx (b:Bool) (L:List UInt8) (p:Nat) (hp:p≤L.length) :
  (fun x:Int×Int×Int=>(if x.2.2=0∧b=true then 15 - x.1 else x.1,x.2.1,x.2.2)) (t5 cbV L p 25 1)=((cbX b (L.drop p)).1,((pF p (cbX b (L.drop p)):Nat):Int),(cbX b (L.drop p)).2.1):=by
 rw[qB cbV L p wz hp,FA]
 unfold cbX Lf nX pF
 generalize bV cbR (L.drop p) []=y
 obtain⟨i,e,c⟩:=y
 by_cases he:e=0
 ·subst he
  cases b
  ·simp[trn]
  ·simp[trn];omega
 ·simp[he]
end Cb
namespace Cb
open Go Bt Px
attribute [local irreducible] aa ACalls
variable {gl:List (Nat×List D)}
attribute [local irreducible] aS cbV cbR
theorem FP (b:Bool) (L:List UInt8) (p:Nat) (hL:L.length≤1000000) (hp:p≤L.length) :
  ACalls (cxg gl) 133 [S L,I p,B b] [] (fun r H=>r=Tri ((cbX b (L.drop p)).1,((pF p (cbX b (L.drop p)):Nat):Int),(cbX b (L.drop p)).2.1)∧H=[]):=by
 have ht:=rZ (gl:=gl) cbV L p (by unfold cbV cbR;decide) hL (by omega)
 have hr:=Mx b L p hp
 have hbd:(t5 cbV L p 25 1).2.2=0→0≤(t5 cbV L p 25 1).1∧(t5 cbV L p 25 1).1≤15:=by
  rw[qB cbV L p wz hp]
  intro h
  have:=ib cbV (L.drop p) []
  rw[show cbV.length=16 by unfold cbV cbR;rfl]at this
  unfold nX at h ⊢
  split at h
  ·rename_i he
   rw[if_pos he];have:=this he;simp only;omega
  ·rename_i he;exact absurd h he
 rw[←hr]
 generalize t5 cbV L p 25 1=y at *
 obtain⟨k,t,e⟩:=y
 simp only at hbd
 show ACalls (cxg gl) 133 [S L,I p,B b] [] (fun r H=>r=Tri (if e=0∧b=true then 15 - k else k,t,e)∧H=[])
 by_cases he:e=0
 ·have hb:=hbd he
  subst he
  cases b
  ·refine ACalls.en Tryz.func133 Tryz.ntmps133 ?_
   repeat' (first|refine aa.ae (tY) ?_|refine aa.ae (ht) ?_|intro _|refine aa.bA ?_)
   all_goals first|exact⟨rfl,rfl⟩|omega
  ·refine ACalls.en Tryz.func133 Tryz.ntmps133 ?_
   repeat' (first|refine aa.ae (tY) ?_|refine aa.ae (ht) ?_|intro _|refine aa.bA ?_)
   all_goals first|exact⟨rfl,rfl⟩|omega
 ·rw[if_neg (fun h=>he h.1)]
  refine ACalls.en Tryz.func133 Tryz.ntmps133 ?_
  repeat' (first|refine aa.ae (tY) ?_|refine aa.ae (ht) ?_|intro _|refine aa.bA ?_)
  all_goals first|exact⟨rfl,rfl⟩|omega
end Cb
namespace Cb
open Go Bt Px
attribute [local irreducible] aa ACalls
variable {gl:List (Nat×List D)}
theorem cbL (b:Bool):aT (vn b)=(cbR.zipIdx.map fun x=>D.agg [.str x.1, .int .i64 (trn b (x.2:Int))]):=by
 unfold aT vn
 rw[List.map_map];rfl
theorem tr0 (b:Bool) (k:Nat) (h:k≤15):ACalls (cxg gl) 212 [B b,I (k:Int)] [] (fun r H=>r=I (trn b (k:Int))∧H=[]):=ER b k (by omega)
attribute [local irreducible] trn cbT cbX af pF
theorem JK (b:Bool) (s:List UInt8) (p:Nat) (hs:s.length≤1000000) (hp:p≤8*s.length):ACalls (cxg gl) 292 [.ptr 0 0,B b] [Rd s p]
  (fun r H=>r = .aX [I (cbX b ((af s p).map aY)).1,I (cbX b ((af s p).map aY)).2.1]∧H=[Rd s (pF p (cbX b ((af s p).map aY)))]):=by
 have t:=fun (k:Nat) (h:k≤15)=>tr0 (gl:=gl) b k h
 have rc:=JL (gl:=gl)
 unfold cbR at rc
 have mk:=CB (gl:=gl) (vn b) (cbR.getD 0 [],trn b 0) (cbT b) rfl (by cases b<;>decide) (by cases b<;>decide) (HE b)
 have tt:=BJ (gl:=gl) (cbT b) s p hs hp (BB b).Ka
 rw[JR]at tt
 generalize cbX b ((af s p).map aY)=X at *
 rw[cbL]at mk
 unfold Dw at mk
 refine ACalls.en Tryz.func292 Tryz.ntmps292 ?_
 repeat' (first|(apply aa.Ny;(iterate 9 rfl);(first|decide|(dsimp only;omega)|(decide));simp only[Int.reduceToNat,List.replicate_zero,List.length_nil,List.length_cons,Nat.reduceAdd,List.nil_append,List.cons_append])|(apply aa.append;(iterate 11 rfl);(first|rfl|(simp only[List.length_append,List.length_map,List.length_cons,List.length_nil];omega));(first|(simp only[List.length_append,List.length_map,List.length_cons,List.length_nil];omega)|(decide));simp only[List.set_cons_zero,List.set_cons_succ])|(apply aa.q true;rfl;rfl;rfl;rfl;first|exact True.intro|omega|(simp only[tn,Int.reduceToNat];omega)|(decide))|refine aa.ah [2,3,4,5,0,8] ( tt) ?_|refine aa.zY [] ( mk) ?_|refine aa.ae (rc) ?_|refine aa.ae (t 0 (by decide)) ?_|refine aa.ae (t 1 (by decide)) ?_|refine aa.ae (t 2 (by decide)) ?_|refine aa.ae (t 3 (by decide)) ?_|refine aa.ae (t 4 (by decide)) ?_|refine aa.ae (t 5 (by decide)) ?_|refine aa.ae (t 6 (by decide)) ?_|refine aa.ae (t 7 (by decide)) ?_|refine aa.ae (t 8 (by decide)) ?_|refine aa.ae (t 9 (by decide)) ?_|refine aa.ae (t 10 (by decide)) ?_|refine aa.ae (t 11 (by decide)) ?_|refine aa.ae (t 12 (by decide)) ?_|refine aa.ae (t 13 (by decide)) ?_|refine aa.ae (t 14 (by decide)) ?_|refine aa.ae (t 15 (by decide)) ?_|apply aa.bO|apply aa.lpU|intro _|refine aa.bA ?_)
 all_goals first|exact⟨rfl,rfl⟩
end Cb
namespace Cb
open Go Bt Px
attribute [local irreducible] aa ACalls
variable {gl:List (Nat×List D)}
theorem Ij (b:Bool) (p:Int):trn b (trn b p)=p:=by cases b<;>simp[trn];omega
attribute [local irreducible] trn cbT cbX af pF ql aC cn
end Cb
end Go.Proofs.YtbpednchkndocaaGreatDoor.Av
