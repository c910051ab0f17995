/- cbpy: the rows, Row. cbpy, plain: the reference's rows, told backwards, say the same. cbpy: the walks of the reference's Row and Take, and of Take. cbpy: the walk of Take. The laws of cbpy. -/
import Derived.Test.YtbpednchkndocaaGreatDoorPg
import Derived.Test.YtbpednchkndocaaGreatDoorCo1
set_option linter.unusedVariables false
set_option linter.unusedSimpArgs false
set_option maxRecDepth 100000
set_option maxHeartbeats 64000000
namespace Go.Proofs.YtbpednchkndocaaGreatDoor.Av
namespace Cb
open Go Bt
attribute [local irreducible] aa ACalls
variable {gl:List (Nat×List D)}
def cbR:List (List UInt8):=[[48,48,49,49],[48,48,49,48,49],[48,48,49,48,48],[49,48,48,49],[48,48,48,49,49],[48,49,49,49],[48,48,48,48,49,48],[49,48,49,49],[48,48,48,49,48],[48,48,48,48,49,49],[48,49,48,49],[49,48,49,48],[48,49,48,48],[49,48,48,48],[48,49,49,48],[49,49]]
def trn(b:Bool)(p:Int):Int:=if b=true then p else 15-p
def iO(b:Bool)(p:Int):List UInt8:=if p<0∨15<p then [] else cbR.getD (trn b p).toNat []
theorem Gm:ACalls (cxg gl) 211 [] [] (fun r H=>r = .d (.agg (cbR.map .str))∧H=[]):=by
 refine ACalls.en Tryz.func211 Tryz.ntmps211 ?_;repeat' (first|refine aa.aF ?_|refine aa.aH ?_|refine aa.aD ?_|refine aa.bG ?_|intro _|refine aa.aA ?_)
 all_goals exact Tp
theorem BD(b:Bool)(p:Int)(h:0≤p∧p≤15):ACalls (cxg gl) 212 [B b,I p] [] (fun r H=>r=I (trn b p)∧H=[]):=by
 cases b
 ·refine ACalls.en Tryz.func212 Tryz.ntmps212 ?_;repeat' (first|refine aa.aF ?_|refine aa.bh true ?_|refine aa.aB ?_|refine aa.ak ?_|intro _|refine aa.aA ?_)
  all_goals exact Tp
 ·refine ACalls.en Tryz.func212 Tryz.ntmps212 ?_;repeat' (first|refine aa.aF ?_|refine aa.bh true ?_|refine aa.aB ?_|refine aa.ak ?_|intro _|refine aa.aA ?_)
  all_goals exact Tp
theorem Ob(b:Bool)(p:Int):ACalls (cxg gl) 148 [B b,I p] [] (fun r H=>r = .cH [S (iO b p),B (decide (0≤p∧p≤15))]∧H=[]):=by
 by_cases h:p<0∨15<p
 ·rw[decide_eq_false (by omega)];unfold iO;rw[if_pos h];refine ACalls.en Tryz.func148 Tryz.ntmps148 ?_;repeat' (first|refine aa.aF ?_|refine aa.bh true ?_|refine aa.ah ?_|refine aa.ae ?_|refine aa.aB ?_|refine aa.au ?_|refine aa.bg ?_|refine aa.aC ?_|intro _|(apply aa.gD;rfl;rfl;rfl)|refine aa.aA ?_)
  all_goals exact Tp
 ·rw[decide_eq_true (by omega)];unfold iO;rw[if_neg h];have ht:0≤trn b p∧trn b p≤15:=by unfold trn;split<;>omega
  have g:(cbR.map D.str).getD (trn b p).toNat .top = .str (cbR.getD (trn b p).toNat []):=by
   have hl:cbR.length=16:=rfl;have h2:(trn b p).toNat<16:=by omega
   simp[List.getD,hl,h2]
  have hl:(cbR.map D.str).length=16:=rfl;have t:=BD (gl:=gl) b p (by omega);refine ACalls.en Tryz.func148 Tryz.ntmps148 ?_;repeat' (first|refine aa.aF ?_|refine aa.q'e true ?_|refine aa.av (Gm) ?_|refine aa.av (t) ?_|refine aa.ah ?_|refine aa.ae ?_|refine aa.aB ?_|refine aa.au ?_|refine aa.bg ?_|refine aa.aC ?_|intro _|(apply aa.gD;rfl;rfl;rfl)|refine aa.aA ?_)
  all_goals first|exact⟨by simp only[g],rfl⟩
theorem QO:∀i:_root_.Fin 16,cbR.getD i.val []≠[]∧(cbR.getD i.val []).length≤6∧(cbR.getD i.val []).all bB=true:=by decide +kernel
theorem zP(b:Bool)(p:Int)(h:0≤p∧p≤15):0≤trn b p∧trn b p≤15:=by unfold trn;split<;>omega
theorem xM(b:Bool)(p:Int)(h:0≤p∧p≤15):iO b p=cbR.getD (trn b p).toNat []:=by unfold iO;rw[if_neg (by omega)]
theorem xL(b:Bool)(p:Int)(h:0≤p∧p≤15):iO b p≠[]∧(iO b p).length≤6∧(iO b p).all bB=true:=by
 rw[xM b p h];have:=zP b p h;exact QO ⟨(trn b p).toNat,by omega⟩
attribute [local irreducible] kr cbR
end Cb
namespace Cb
open Go Bt Px
def yt(b:Bool):List (List UInt8×Int):=cbR.zipIdx.map fun x=>(x.1,trn b (x.2:Int))
def cbT(b:Bool):Tb:=(mk (yt b) tb0).getD tb0
theorem Ll(b:Bool):mk (yt b) tb0=some (cbT b):=by
 have:(mk (yt b) tb0).isSome=true:=by cases b<;>decide +kernel
 unfold cbT;cases h:mk (yt b) tb0 with
 |none=>rw[h]at this;cases this
 |some T=>rfl
theorem EG(b:Bool):vJ (cbT b) (yt b):=JK (Ll b)
theorem H4(b:Bool):(yt b).map (·.1)=cbR:=by cases b<;>rfl
theorem Oi(b:Bool)(i:Nat)(h:i<16):mL (cbT b) i=trn b i:=by
 unfold mL;rw[(EG b).codes];have hl:∀b,∀i:_root_.Fin 16,((yt b).getD i.val ([],0)).2=trn b i.val:=by decide +kernel
 exact hl b ⟨i,h⟩
def cbX(b:Bool)(Dg:List UInt8):Int×Int×Nat:=(if (dB cbR Dg []).2.1=0 then trn b (dB cbR Dg []).1 else 0,(dB cbR Dg []).2)
theorem Od(b:Bool)(Dg:List UInt8):oZ (cbT b) Dg []=cbX b Dg:=by
 rw[rF (EG b),H4];unfold cbX;have hb:=mP cbR Dg [];have hl:cbR.length=16:=rfl;rw[hl]at hb;by_cases he:(dB cbR Dg []).2.1=0
 ·rw[if_pos he,if_pos he];obtain⟨h0,h1⟩:=hb he;obtain⟨n,hn⟩:=Int.eq_ofNat_of_zero_le h0;rw[hn,Oi b n (by omega)]
 ·rw[if_neg he,if_neg he]
end Cb
namespace Cb
open Go Bt Px
attribute [local irreducible] aa ACalls
variable {gl:List (Nat×List D)}
attribute [local irreducible] kr cbR
end Cb
namespace Cb
open Go Bt Px
attribute [local irreducible] aa ACalls
variable {gl:List (Nat×List D)}
theorem cbL(b:Bool):bK (yt b)=(cbR.zipIdx.map fun x=>D.agg [.str x.1, .int .i64 (trn b (x.2:Int))]):=by
 unfold bK yt;rw[List.map_map];rfl
theorem tr0(b:Bool)(k:Nat)(h:k≤15):ACalls (cxg gl) 212 [B b,I (k:Int)] [] (fun r H=>r=I (trn b (k:Int))∧H=[]):=BD b k (by omega)
attribute [local irreducible] trn cbT cbX aG Ae
theorem NU(b:Bool)(s:List UInt8)(p:Nat)(hs:s.length≤1000000)(hp:p≤8*s.length):ACalls (cxg gl) 292 [.ptr 0 0,B b] [Rd s p]
  (fun r H=>r = .cH [I (cbX b ((aG s p).map cn)).1,I (cbX b ((aG s p).map cn)).2.1]∧H=[Rd s (Ae p (cbX b ((aG s p).map cn)))]):=by
 have t:=fun (k:Nat) (h:k≤15)=>tr0 (gl:=gl) b k h
 have rc:=Gm (gl:=gl);unfold cbR at rc;have mk:=FR (gl:=gl) (yt b) (cbR.getD 0 [],trn b 0) (cbT b) rfl (by cases b<;>decide) (by cases b<;>decide) (Ll b);have tt:=EX (gl:=gl) (cbT b) s p hs hp (EG b).OD;rw[Od]at tt;generalize cbX b ((aG s p).map cn)=X at *;rw[cbL]at mk;unfold GI at mk;refine ACalls.en Tryz.func292 Tryz.ntmps292 ?_;repeat' (first|refine aa.aF ?_|(apply aa.FT;(iterate 9 rfl);(first|decide|(dsimp only;omega)|(decide));simp only[Int.reduceToNat,List.replicate_zero,List.length_nil,List.length_cons,Nat.reduceAdd,List.nil_append,List.cons_append])|(apply aa.append;(iterate 11 rfl);(first|rfl|(simp only[List.length_append,List.length_map,List.length_cons,List.length_nil];omega));(first|(simp only[List.length_append,List.length_map,List.length_cons,List.length_nil];omega)|(decide));simp only[List.set_cons_zero,List.set_cons_succ])|(apply aa.q true;rfl;rfl;rfl;rfl;first|exact True.intro|omega|(simp only[tn,Int.reduceToNat];omega)|(decide))|refine aa.aj [2,3,4,5,0,8] (tt) ?_|refine aa.xN [] (mk) ?_|refine aa.av (rc) ?_|refine aa.av (t 0 (by decide)) ?_|refine aa.av (t 1 (by decide)) ?_|refine aa.av (t 2 (by decide)) ?_|refine aa.av (t 3 (by decide)) ?_|refine aa.av (t 4 (by decide)) ?_|refine aa.av (t 5 (by decide)) ?_|refine aa.av (t 6 (by decide)) ?_|refine aa.av (t 7 (by decide)) ?_|refine aa.av (t 8 (by decide)) ?_|refine aa.av (t 9 (by decide)) ?_|refine aa.av (t 10 (by decide)) ?_|refine aa.av (t 11 (by decide)) ?_|refine aa.av (t 12 (by decide)) ?_|refine aa.av (t 13 (by decide)) ?_|refine aa.av (t 14 (by decide)) ?_|refine aa.av (t 15 (by decide)) ?_|refine aa.bC ?_|refine aa.ah ?_|refine aa.ae ?_|refine aa.bG ?_|refine aa.aX ?_|apply aa.di|apply aa.lpU|intro _|refine aa.aA ?_)
 all_goals exact Tp
end Cb
namespace Cb
open Go Bt Px
attribute [local irreducible] aa ACalls
variable {gl:List (Nat×List D)}
theorem QN:∀(i:Nat),i<16→∀R,dB cbR (cbR.getD i []++R) []=((i:Int),0,(cbR.getD i []).length)
 |0,_,R=>rfl
 |1,_,R=>rfl
 |2,_,R=>rfl
 |3,_,R=>rfl
 |4,_,R=>rfl
 |5,_,R=>rfl
 |6,_,R=>rfl
 |7,_,R=>rfl
 |8,_,R=>rfl
 |9,_,R=>rfl
 |10,_,R=>rfl
 |11,_,R=>rfl
 |12,_,R=>rfl
 |13,_,R=>rfl
 |14,_,R=>rfl
 |15,_,R=>rfl
 |n+16,h,_=>absurd h (by omega)
theorem Oh(c b:Bool)(p:Int)(h:0≤p∧p≤15)(R:List UInt8):cbX c (iO b p++R)=(trn c (trn b p),0,(iO b p).length):=by
 rw[xM b p h];have ht:=zP b p h;have:=QN (trn b p).toNat (by omega) R;unfold cbX;rw[this,if_pos rfl,show (((trn b p).toNat:Nat):Int)=trn b p by omega]
theorem EY(b:Bool)(p:Int):trn b (trn b p)=p:=by cases b<;>simp[trn];omega
attribute [local irreducible] trn cbT cbX aG Ae iO jw bJ
end Cb
namespace Mb
open Go Bt Px
attribute [local irreducible] aa ACalls
variable {gl:List (Nat×List D)}
def qa(b:Bool)(k:Nat):List (List UInt8×Int):=(iy b k).zipIdx.map fun x=>(x.1,10*(k:Int)+(x.2:Int))
def Nj(b:Bool):Nat→List D
 |0=>[]
 |k+1=>Nj b k++bK (qa b k)
def kH(b:Bool):List (List UInt8×Int):=qa b 0++qa b 1++qa b 2++qa b 3++qa b 4++qa b 5
theorem JV(b:Bool):Nj b 6=bK (kH b):=by cases b<;>rfl
theorem Ni:∀b:Bool,∀k:_root_.Fin 6,(Nj b k.val).length≤30:=by decide +kernel
theorem Qt(b:Bool)(k:Nat)(hk:k≤5)(es:List D)(he:es.length≤1000):ACalls (cxg gsp) 313 [I k, .ptr 0 0, .ptr 1 0] [.cells [B b], .cells [.ms 2 es.length], .arr 321 2 es]
  (fun r H=>r = .cH []∧H=[.cells [B b], .cells [.ms 2 (es++bK (qa b k)).length], .arr 321 2 (es++bK (qa b k))]):=by
 have r1:=Fh (gl:=gsp) b k;have f1:=CF b k;unfold gm at f1;rcases (show k=0∨k=1∨k=2∨k=3∨k=4∨k=5 by omega)with rfl|rfl|rfl|rfl|rfl|rfl;all_goals cases b
 all_goals
  refine ACalls.en Tryz.func313 Tryz.ntmps313 ?_;repeat' (first|refine aa.aF ?_|(apply aa.q true;rfl;rfl;rfl;rfl;first|exact True.intro|omega|(simp only[tn,Int.reduceToNat];omega)|(decide))|refine aa.aj [] (f1) ?_|refine aa.av (r1) ?_|refine aa.bC ?_|refine aa.aB ?_|refine aa.ak ?_|refine aa.aD ?_|refine aa.bG ?_|refine aa.aX ?_|refine aa.lL ?_|(apply aa.mX;(iterate 11 rfl);(first|rfl|(simp only[List.length_append,List.length_map,List.length_set,List.length_replicate,List.length_cons,List.length_nil];omega)|(decide));(first|(simp only[List.length_append,List.length_map,List.length_cons,List.length_nil];omega)|(decide));simp only[List.set_cons_zero,List.set_cons_succ])|apply aa.di|apply aa.lpU|intro _)
  all_goals first|exact⟨rfl,rfl⟩|exact⟨rfl,by simp only[List.append_assoc];rfl⟩|exact⟨rfl,by rw[show bK (qa _ _)=([]:List D) from rfl,List.append_nil];rfl⟩
def mbT(b:Bool):Tb:=(mk (kH b) tb0).getD tb0
theorem JY(b:Bool):mk (kH b) tb0=some (mbT b):=by
 have:(mk (kH b) tb0).isSome=true:=by cases b<;>decide +kernel
 unfold mbT;cases h:mk (kH b) tb0 with
 |none=>rw[h]at this;cases this
 |some T=>rfl
theorem Ek(b:Bool):vJ (mbT b) (kH b):=JK (JY b)
def mb0(b:Bool):List UInt8×Int:=(kH b).getD 0 ([],0)
theorem P5(b:Bool):(kH b)[0]?=some (mb0 b):=by cases b<;>rfl
theorem J3(b:Bool):(kH b).length≤256:=by cases b<;>decide
theorem Em(b:Bool):∀p∈kH b,p.1.length≤1000000:=by cases b<;>decide
def Ma(b:Bool):List aN:=[.cells [B b], .cells [.ms 2 (bK (kH b)).length], .front 321 2 (bK (kH b)).length, .map (cO (mbT b).sym), .map (fP (mbT b).rws), .map (cO (mbT b).beg),
 .cells [.own 2 (bK (mbT b).codes) 9, .mp 3, .mp 4, .mp 5,I (mbT b).lng], .cells (zt (mb0 b)), .cells (zt (mb0 b)), .front 321 2 (bK (mbT b).codes).length]
attribute [local irreducible] cO fP bK mbT qa kH mb0
theorem Hm(b:Bool):ACalls (cxg gsp) 304 [B b] [] (fun r H=>r = .ptr 6 0∧H=Ma b):=by
 have mk:=FR (gl:=gsp) (kH b) (mb0 b) (mbT b) (P5 b) (J3 b) (Em b) (JY b);rw[←JV]at mk;unfold Ma;rw[←JV];have e:=fun (k:_root_.Fin 6)=>Qt b k.val (by omega) (Nj b k.val) (by have:=Ni b k;omega)
 have e0:=e 0;have e1:=e 1;have e2:=e 2;have e3:=e 3;have e4:=e 4;have e5:=e 5;unfold GI at mk;refine ACalls.en Tryz.func304 Tryz.ntmps304 ?_;repeat' (first|refine aa.aF ?_|refine aa.bh true ?_|refine aa.aj [0,1,2] (e0) ?_|refine aa.aj [0,1,2] (e1) ?_|refine aa.aj [0,1,2] (e2) ?_|refine aa.aj [0,1,2] (e3) ?_|refine aa.aj [0,1,2] (e4) ?_|refine aa.aj [0,1,2] (e5) ?_|refine aa.xN [] (mk) ?_|refine aa.bC ?_|refine aa.ah ?_|refine aa.ae ?_|refine aa.aH ?_|refine aa.aM ?_|refine aa.CM 1 0 321 2 ?_|refine aa.uG 17 ?_|apply aa.di|apply aa.lpU|intro _)
 (apply aa.BN 10;rfl;rfl;rfl;rfl;rfl)
 exact⟨rfl,rfl⟩
def lq(b:Bool):List (List UInt8):=(kH b).map (·.1)
def mbX(b:Bool)(Dg:List UInt8):Int×Int×Int×Nat :=
  if (dB (lq b) Dg []).2.1=0 then
    (if ((dB (lq b) Dg []).1 + (if b = true then 0 else 12)) / 4 = 2 then (0, 0, 6, 0)
     else (((dB (lq b) Dg []).1+(if b=true then 0 else 12))/4,((dB (lq b) Dg []).1+(if b=true then 0 else 12))%4,0,(dB (lq b) Dg []).2.2))
  else (0,0,(dB (lq b) Dg []).2.1,0)
def D9(p:Nat)(x:Int×Int×Int×Nat):Nat:=if x.2.2.1=0 then p+x.2.2.2 else p
theorem xj(b:Bool):(lq b).length=if b=true then 21 else 9:=by unfold lq kH;cases b<;>decide +kernel
theorem PY(b:Bool)(i:Int)(h:0≤i∧i<(lq b).length):(0≤mL (mbT b) i∧mL (mbT b) i≤60)∧mL (mbT b) i/10=(i+(if b=true then 0 else 12))/4∧mL (mbT b) i%10=(i+(if b=true then 0 else 12))%4:=by
 rw[xj]at h;have hs:mL (mbT b) i=((kH b).getD i.toNat ([],0)).2:=by unfold mL;rw[(Ek b).codes]
 rw[hs];obtain⟨n,rfl⟩:=Int.eq_ofNat_of_zero_le h.1;rw[Int.toNat_natCast];cases b with
 |true =>
  have key:∀i:_root_.Fin 21,(0≤((kH true).getD i.val ([],0)).2∧((kH true).getD i.val ([],0)).2≤60)∧((kH true).getD i.val ([],0)).2/10=((i.val:Int)+0)/4∧((kH true).getD i.val ([],0)).2%10=((i.val:Int)+0)%4:=by unfold kH;decide +kernel
  exact key ⟨n,by simp only[if_true]at h;omega⟩
 |false =>
  have key:∀i:_root_.Fin 9,(0≤((kH false).getD i.val ([],0)).2∧((kH false).getD i.val ([],0)).2≤60)∧((kH false).getD i.val ([],0)).2/10=((i.val:Int)+12)/4∧((kH false).getD i.val ([],0)).2%10=((i.val:Int)+12)%4:=by unfold kH;decide +kernel
  exact key ⟨n,by simp only[Bool.false_eq_true,if_false]at h;omega⟩
theorem BL(rows:List (List UInt8)):∀(D w:List UInt8),(dB rows D w).2.1=0∨(dB rows D w).2.1=2∨(dB rows D w).2.1=3
 |[],w=>by simp[dB]
 |x::r,w=>by
  rw[dB];cases jo rows w x with
  |done i c=>simp
  |fail=>simp
  |next w'=>exact BL rows r w'
attribute [local irreducible] aG Ae lq Ma
theorem JU(b:Bool)(s:List UInt8)(p:Nat)(hs:s.length≤1000000)(hp:p≤8*s.length):ACalls (cxg gsp) 291 [.ptr 0 0,B b] [Rd s p]
  (fun r H=>r = .cH [I (mbX b ((aG s p).map cn)).1,I (mbX b ((aG s p).map cn)).2.1,I (mbX b ((aG s p).map cn)).2.2.1]∧H=[Rd s (D9 p (mbX b ((aG s p).map cn)))]):=by
 have tb:=Hm b;have a0:=ui (gl:=gsp) s p;have tt:=EX (gl:=gsp) (mbT b) s p hs hp (Ek b).OD;rw[rF (Ek b),show (kH b).map (·.1)=lq b by unfold lq;rfl]at tt;have he:=BL (lq b) ((aG s p).map cn) [];have hb:=mP (lq b) ((aG s p).map cn) [];unfold mbX;generalize dB (lq b) ((aG s p).map cn) []=y at *;obtain⟨i,e,c⟩:=y;simp only at he hb tt ⊢;unfold Ma at tb;by_cases h0:e=0
 ·obtain⟨hs0,hs1,hs2⟩:=PY b i (hb h0);rw[if_pos h0]at tt;rw[if_pos h0,←hs1,←hs2];generalize mL (mbT b) i=sy at *;subst h0;unfold Ae at tt;simp only[if_true]at tt;by_cases h2:sy/10=2
  ·rw[if_pos h2];have sk:=gI (gl:=gsp) s ((p+c:Nat):Int) p (by omega) ⟨by omega,by omega⟩;refine ACalls.en Tryz.func291 Tryz.ntmps291 ?_;repeat' (first|refine aa.aF ?_|refine aa.bh true ?_|refine aa.aj [0] (a0) ?_|refine aa.aj [] (tb) ?_|refine aa.aj [4,5,6,7,0,10] (tt) ?_|refine aa.aj [0] (sk) ?_|refine aa.ah ?_|refine aa.ae ?_|refine aa.ak ?_|refine aa.aQ ?_|intro _|refine aa.aA ?_)
   all_goals exact Tp
  ·rw[if_neg h2];unfold D9;simp only[if_true];refine ACalls.en Tryz.func291 Tryz.ntmps291 ?_;repeat' (first|refine aa.aF ?_|refine aa.bh true ?_|refine aa.aj [0] (a0) ?_|refine aa.aj [] (tb) ?_|refine aa.aj [4,5,6,7,0,10] (tt) ?_|refine aa.ah ?_|refine aa.ae ?_|refine aa.ak ?_|refine aa.aQ ?_|intro _|refine aa.aA ?_)
   all_goals exact Tp
 ·rw[if_neg h0];rw[if_neg h0]at tt;unfold D9;unfold Ae at tt;simp only[if_neg h0]at tt ⊢;refine ACalls.en Tryz.func291 Tryz.ntmps291 ?_;repeat' (first|refine aa.aF ?_|refine aa.bh true ?_|refine aa.aj [0] (a0) ?_|refine aa.aj [] (tb) ?_|refine aa.aj [4,5,6,7,0,10] (tt) ?_|refine aa.ah ?_|refine aa.ae ?_|refine aa.ak ?_|refine aa.aQ ?_|intro _|refine aa.aA ?_)
  all_goals exact Tp
end Mb
section
open Go
end
namespace Mb
open Go Bt
attribute [local irreducible] aa ACalls
variable {gl:List (Nat×List D)}
theorem CC:∀b:Bool,∀k:_root_.Fin 6,(iy b k.val).length≤4∧(k.val=5→(iy b k.val).length≤1):=by unfold iy;decide +kernel
theorem tq(b:Bool)(k c:Int)(h:lu b k c=true):(0≤k∧k≤5)∧0≤c∧c≤3:=by
 unfold lu at h;rw[decide_eq_true_eq]at h;by_cases hk:k<0∨5<k
 ·have:iy b k=[]:=by unfold iy;rw[if_pos hk]
  rw[this]at h;simp at h;omega
 ·obtain⟨h1,h2⟩:=CC b ⟨k.toNat,by omega⟩;simp only at h1;rw[show ((k.toNat:Nat):Int)=k by omega]at h1;omega
theorem JZ:∀b:Bool,∀k:_root_.Fin 6,∀c:_root_.Fin 4,lu b k.val c.val=true→eD b k.val c.val≠[]∧(eD b k.val c.val).length≤9∧(eD b k.val c.val).all bB=true:=by decide +kernel
theorem p9(b:Bool)(k c:Int)(h:lu b k c=true):eD b k c≠[]∧(eD b k c).length≤9∧(eD b k c).all bB=true:=by
 obtain⟨hk,hc⟩:=tq b k c h;have:=JZ b ⟨k.toNat,by omega⟩ ⟨c.toNat,by omega⟩;simp only at this;rw[show ((k.toNat:Nat):Int)=k by omega,show ((c.toNat:Nat):Int)=c by omega]at this;exact this h
attribute [local irreducible] kr eD
end Mb
end Go.Proofs.YtbpednchkndocaaGreatDoor.Av
