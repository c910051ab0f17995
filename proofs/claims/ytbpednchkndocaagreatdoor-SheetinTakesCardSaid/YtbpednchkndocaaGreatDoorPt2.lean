/- The reference's rows of events. The reference's Row of an event. The program's rows of events: many, place. The program's rows of events: Row; it agrees with the reference's. -/
import Derived.Test.YtbpednchkndocaaGreatDoorPt1
set_option linter.unusedVariables false
set_option linter.unusedSimpArgs false
set_option maxRecDepth 100000
set_option maxHeartbeats 64000000
namespace Go.Proofs.YtbpednchkndocaaGreatDoor.Av
namespace Tc
open Go Bt
attribute [local irreducible] aa ACalls
variable {gl:List (Nat×List D)}
def y9:List (List UInt8):=[[49,48,32,49,49,49,49,32,48,49,48,49,48,49,32,48,48,49,48,49,49,49,32,48,48,48,49,49,49,49,49,32,48,48,48,49,48,48,49,48,49,32,48,48,48,49,48,48,49,48,48,32,48,48,48,48,49,48,48,48,48,49,32,48,48,48,48,49,48,48,48,48,48,32,48,48,48,48,48,48,48,48,49,49,49,32,48,48,48,48,48,48,48,48,49,49,48,32,48,48,48,48,48,49,48,48,48,48,48],[49,49,48,32,48,49,48,49,48,48,32,48,48,48,49,49,49,49,48,32,48,48,48,48,48,48,49,49,49,49,32,48,48,48,48,48,49,48,48,48,48,49,32,48,48,48,48,48,49,48,49,48,48,48,48],[49,49,49,48,32,48,48,48,49,49,49,48,49,32,48,48,48,48,48,48,49,49,49,48,32,48,48,48,48,48,49,48,49,48,48,48,49],[48,49,49,48,49,32,48,48,48,49,48,48,48,49,49,32,48,48,48,48,48,48,49,49,48,49],[48,49,49,48,48,32,48,48,48,49,48,48,48,49,48,32,48,48,48,48,48,49,48,49,48,48,49,48],[48,49,48,49,49,32,48,48,48,48,48,48,49,49,48,48,32,48,48,48,48,48,49,48,49,48,48,49,49],[48,49,48,48,49,49,32,48,48,48,48,48,48,49,48,49,49,32,48,48,48,48,48,49,48,49,48,49,48,48],[48,49,48,48,49,48,32,48,48,48,48,48,48,49,48,49,48],[48,49,48,48,48,49,32,48,48,48,48,48,48,49,48,48,49],[48,49,48,48,48,48,32,48,48,48,48,48,48,49,48,48,48],[48,48,49,48,49,49,48,32,48,48,48,48,48,49,48,49,48,49,48,49],[48,48,49,48,49,48,49],[48,48,49,48,49,48,48],[48,48,48,49,49,49,48,48],[48,48,48,49,49,48,49,49],[48,48,48,49,48,48,48,48,49],[48,48,48,49,48,48,48,48,48],[48,48,48,48,49,49,49,49,49],[48,48,48,48,49,49,49,49,48],[48,48,48,48,49,49,49,48,49],[48,48,48,48,49,49,49,48,48],[48,48,48,48,49,49,48,49,49],[48,48,48,48,49,49,48,49,48],[48,48,48,48,48,49,48,48,48,49,48],[48,48,48,48,48,49,48,48,48,49,49],[48,48,48,48,48,49,48,49,48,49,49,48],[48,48,48,48,48,49,48,49,48,49,49,49]]
def Aw:List (List UInt8):=[[48,49,49,49,32,48,48,48,48,49,49,48,48,49,32,48,48,48,48,48,48,48,48,49,48,49],[48,48,49,49,49,49,32,48,48,48,48,48,48,48,48,49,48,48],[48,48,49,49,49,48],[48,48,49,49,48,49],[48,48,49,49,48,48],[48,48,49,48,48,49,49],[48,48,49,48,48,49,48],[48,48,49,48,48,48,49],[48,48,49,48,48,48,48],[48,48,48,49,49,48,49,48],[48,48,48,49,49,48,48,49],[48,48,48,49,49,48,48,48],[48,48,48,49,48,49,49,49],[48,48,48,49,48,49,49,48],[48,48,48,49,48,49,48,49],[48,48,48,49,48,49,48,48],[48,48,48,49,48,48,49,49],[48,48,48,48,49,49,48,48,48],[48,48,48,48,49,48,49,49,49],[48,48,48,48,49,48,49,49,48],[48,48,48,48,49,48,49,48,49],[48,48,48,48,49,48,49,48,48],[48,48,48,48,49,48,48,49,49],[48,48,48,48,49,48,48,49,48],[48,48,48,48,49,48,48,48,49],[48,48,48,48,48,48,48,49,49,49],[48,48,48,48,48,48,48,49,49,48],[48,48,48,48,48,48,48,49,48,49],[48,48,48,48,48,48,48,49,48,48],[48,48,48,48,48,49,48,48,49,48,48],[48,48,48,48,48,49,48,48,49,48,49],[48,48,48,48,48,49,48,48,49,49,48],[48,48,48,48,48,49,48,48,49,49,49],[48,48,48,48,48,49,48,49,49,48,48,48],[48,48,48,48,48,49,48,49,49,48,48,49],[48,48,48,48,48,49,48,49,49,48,49,48],[48,48,48,48,48,49,48,49,49,48,49,49],[48,48,48,48,48,49,48,49,49,49,48,48],[48,48,48,48,48,49,48,49,49,49,48,49],[48,48,48,48,48,49,48,49,49,49,49,48],[48,48,48,48,48,49,48,49,49,49,49,49]]
def nP (la:Bool):List (List UInt8):=if la=true then Aw else y9
def gZ (la:Bool) (ru:Int):List (List UInt8):=if (nP la).length≤ru.toNat then [] else jE ((nP la).getD ru.toNat [])
def kZ (la:Bool) (ru am:Int):List UInt8:=if ((gZ la ru).length:Int)<am then [] else (gZ la ru).getD (am - 1).toNat []
def K7 (n:Int):List UInt8:=if n<0 then [49] else [48]
def mE (n:Int):Int:=if n<0 then -n else n
def Nu (la:Bool):List UInt8:=if la=true then [49] else [48]
def qM (e:Ev):List UInt8:=if evR e=true then
    (if kZ e.last e.run (mE e.level)≠[] then kZ e.last e.run (mE e.level)++K7 e.level
     else (([48,48,48,48,48,49,49]++Nu e.last)++cH e.run 6 6)++cH (if e.level<0 then 256+e.level else e.level) 8 8)
  else []
theorem zo:ACalls (cxg gl) 269 [] [] (fun r H=>r = .d (.sl 1 (bE y9))∧H=[]):=by
 unfold bE y9
 refine ACalls.en Tryz.func269 Tryz.ntmps269 ?_
 repeat' (first|refine aa.aD ?_|refine aa.bh true ?_|refine aa.aF ?_|intro _|refine aa.av ?_)
 all_goals first|exact⟨rfl,rfl⟩
theorem CE:ACalls (cxg gl) 270 [] [] (fun r H=>r = .d (.sl 1 (bE Aw))∧H=[]):=by
 unfold bE Aw
 refine ACalls.en Tryz.func270 Tryz.ntmps270 ?_
 repeat' (first|refine aa.aD ?_|refine aa.bh true ?_|refine aa.aF ?_|intro _|refine aa.av ?_)
 all_goals first|exact⟨rfl,rfl⟩
theorem BN:∀la:Bool,∀s∈nP la,s.length≤100000:=by decide +kernel
attribute [local irreducible] bE jE y9 Aw
theorem zq (la:Bool) (ru:Int) (h0:0≤ru) (h:((nP la).length:Int)≤ru):ACalls (cxg gl) 240 [B la,I ru] [] (fun r H=>r = .d .aY∧H=[]):=by
 have t1:=zo (gl:=gl)
 have t2:=CE (gl:=gl)
 have hl:=gK (nP la)
 cases la
 all_goals
  unfold nP at hl h
  simp only[Bool.false_eq_true,if_false,if_true]at hl h
  refine ACalls.en Tryz.func240 Tryz.ntmps240 ?_
  repeat' (first|refine aa.aD ?_|refine aa.bh true ?_|refine aa.ah (t1) ?_|refine aa.ah (t2) ?_|refine aa.ae ?_|refine aa.au ?_|refine aa.ai ?_|intro _|refine aa.av ?_)
  all_goals first|exact⟨rfl,rfl⟩|omega
theorem wu (la:Bool) (ru:Int) (h0:0≤ru) (h:ru<((nP la).length:Int)):ACalls (cxg gl) 240 [B la,I ru] [] (fun r H=>r = .own 1 (bE (gZ la ru)) 0∧H=[.front 9 1 (bE (gZ la ru)).length]):=by
 have t1:=zo (gl:=gl)
 have t2:=CE (gl:=gl)
 have g:=kN (nP la) ru.toNat (by omega)
 have hs:((nP la).getD ru.toNat []).length≤100000:=by
  rw[List.getD_eq_getElem?_getD,List.getElem?_eq_getElem (by omega)]
  exact BN la _ (List.getElem_mem _)
 have w:=Il (gl:=gl) ((nP la).getD ru.toNat []) hs
 have e:gZ la ru=jE ((nP la).getD ru.toNat []):=by unfold gZ;rw[if_neg (by omega)]
 rw[e]
 have hl:=gK (nP la)
 generalize jE ((nP la).getD ru.toNat [])=W at *
 generalize (nP la).getD ru.toNat []=X at *
 cases la
 all_goals
  unfold nP at hl h g
  simp only[Bool.false_eq_true,if_false,if_true]at hl h g
  refine ACalls.en Tryz.func240 Tryz.ntmps240 ?_
  repeat' (first|refine aa.aD ?_|(apply aa.q true;rfl;rfl;rfl;rfl;first|exact True.intro|omega|(simp only[tn,Int.reduceToNat];omega)|(rw[hl];omega))|refine aa.az [] ( w) ?_|refine aa.ah (t1) ?_|refine aa.ah (t2) ?_|refine aa.af ?_|refine aa.au ?_|refine aa.ai ?_|(apply aa.gQ;(iterate 7 rfl);exact g)|intro _)
  all_goals first|omega|skip
  (apply aa.xB 1;rfl;rfl;rfl;rfl;rfl)
  exact⟨rfl,rfl⟩
theorem Ia (n:Int) (h : -1000≤n∧n≤1000):ACalls (cxg gl) 243 [I n] [] (fun r H=>r=I (mE n)∧H=[]):=by
 unfold mE
 by_cases h:n<0
 ·rw[if_pos h]
  refine ACalls.en Tryz.func243 Tryz.ntmps243 ?_
  repeat' (first|refine aa.aD ?_|refine aa.bh true ?_|refine aa.ae ?_|refine aa.af ?_|intro _|refine aa.av ?_)
  all_goals first|exact⟨rfl,rfl⟩
 ·rw[if_neg h]
  refine ACalls.en Tryz.func243 Tryz.ntmps243 ?_
  repeat' (first|refine aa.aD ?_|refine aa.bh true ?_|refine aa.ae ?_|refine aa.af ?_|intro _|refine aa.av ?_)
  all_goals first|exact⟨rfl,rfl⟩
attribute [local irreducible] gZ
theorem Ny (la:Bool) (ru am:Int) (h0:0≤ru) (ha:1≤am) (ha2:am≤1000):ACalls (cxg gl) 242 [B la,I ru,I am] [] (fun r H=>r=S (kZ la ru am)∧H=[]):=by
 unfold kZ
 by_cases hr:((nP la).length:Int)≤ru
 ·have e:gZ la ru=[]:=by unfold gZ;rw[if_pos (by omega)]
  rw[e,if_pos (by simp only[List.length_nil];omega)]
  have w:=zq (gl:=gl) la ru h0 hr
  refine ACalls.en Tryz.func242 Tryz.ntmps242 ?_
  repeat' (first|refine aa.aD ?_|refine aa.bh true ?_|refine aa.ah (w) ?_|refine aa.ae ?_|refine aa.af ?_|intro _|refine aa.av ?_)
  all_goals first|exact⟨rfl,rfl⟩|omega
 ·have w:=wu (gl:=gl) la ru h0 (by omega)
  have hl:=gK (gZ la ru)
  by_cases hm:((gZ la ru).length:Int)<am
  ·rw[if_pos hm]
   refine ACalls.en Tryz.func242 Tryz.ntmps242 ?_
   repeat' (first|refine aa.aD ?_|refine aa.bh true ?_|refine aa.az [] ( w) ?_|refine aa.ae ?_|refine aa.af ?_|intro _|refine aa.av ?_)
   all_goals first|exact⟨rfl,rfl⟩|omega
  ·rw[if_neg hm]
   have g:=kN (gZ la ru) (am - 1).toNat (by omega)
   refine ACalls.en Tryz.func242 Tryz.ntmps242 ?_
   repeat' (first|refine aa.aD ?_|(apply aa.q true;rfl;rfl;rfl;rfl;first|exact True.intro|omega|(simp only[tn,Int.reduceToNat];omega)|(rw[hl];omega))|refine aa.az [] ( w) ?_|refine aa.ae ?_|refine aa.af ?_|(apply aa.gQ;(iterate 7 rfl);exact g)|intro _|refine aa.av ?_)
   all_goals first|exact⟨rfl,rfl⟩|omega
end Tc
namespace Tc
open Go Bt
attribute [local irreducible] aa ACalls
variable {gl:List (Nat×List D)}
theorem DK {n:Int} (h:n≠0 ∧ -127≤n∧n≤127):1≤mE n∧mE n≤127:=by unfold mE;split<;>omega
theorem DR:∀la:Bool,∀ru:_root_.Fin 64,∀w∈gZ la ru.val,w.length≤12:=by decide +kernel
theorem G5 (la:Bool) (ru am:Int) (h:0≤ru∧ru≤63):(kZ la ru am).length≤12:=by
 unfold kZ
 split
 ·simp
 ·rename_i hm
  rw[List.getD_eq_getElem?_getD]
  cases hx:(gZ la ru)[(am - 1).toNat]? with
  |none=>simp
  |some w =>
   have:=DR la ⟨ru.toNat,by omega⟩ w
   simp only at this
   rw[show ((ru.toNat:Nat):Int)=ru by omega]at this
   exact this (List.mem_of_getElem? hx)
attribute [local irreducible] bE jE y9 Aw gZ kZ cH
end Tc
namespace Tc
open Go Bt
attribute [local irreducible] aa ACalls
variable {gl:List (Nat×List D)}
noncomputable abbrev gtc:List (Nat×List D):=[(1,gl1),(2,gl2)]
def eP (la:Bool) (ru:Int):Int:=if la=true then (if ru=0 then 3 else if ru=1 then 2 else if ru≤40 then 1 else 0)
 else (if ru=0 then 12 else if ru=1 then 6 else if ru=2 then 4 else if ru≤6 then 3 else if ru≤10 then 2 else if ru≤26 then 1 else 0)
def gX (la:Bool):Nat→Int
 |0=>0
 |n+1=>gX la n+eP la n
def qW (la:Bool):Int:=if la=true then gX false 63 else 0
def dE (la:Bool) (ru am:Int):Int:=if eP la ru<am then -1 else qW la+gX la ru.toNat+am - 1
theorem ij (la:Bool) (ru:Int):0≤eP la ru∧eP la ru≤12:=by unfold eP;repeat' split;all_goals omega
theorem lG (la:Bool):∀n,0≤gX la n∧gX la n≤12*n
 |0=>by simp[gX]
 |n+1=>by have:=lG la n;have:=ij la n;simp only[gX];omega
theorem uS (la:Bool) (ru:Int):ACalls (cxg gl) 274 [B la,I ru] [] (fun r H=>r=I (eP la ru)∧H=[]):=by
 cases la
 all_goals
  refine ACalls.en Tryz.func274 Tryz.ntmps274 ?_
  repeat' (first|refine aa.aD ?_|refine aa.bh true ?_|refine aa.au ?_|refine aa.ai ?_|refine aa.aj ?_|refine aa.aB ?_|intro _|(apply aa.ed ;rfl)|refine aa.av ?_)
  all_goals refine⟨congrArg I ?_,rfl⟩
  all_goals unfold eP
  all_goals simp only[Bool.false_eq_true,if_false,if_true]
  all_goals repeat' split
  all_goals first|rfl|omega|(simp only[bT]at *;omega)
attribute [local irreducible] eP
theorem lX (la:Bool) (n:Nat):gX la (n+1)=gX la n+eP la n:=rfl
theorem Fw (la:Bool):gX la 0=0:=rfl
attribute [local irreducible] gX
theorem I5 (la:Bool) (ru am:Int) (hr:0≤ru∧ru≤63) (ha:1≤am∧am≤127):ACalls (cxg gl) 249 [B la,I ru,I am] [] (fun r H=>r=I (dE la ru am)∧H=[]):=by
 have hm:=uS (gl:=gl) la ru
 have hb:=ij la ru
 unfold dE
 by_cases h:eP la ru<am
 ·rw[if_pos h]
  refine ACalls.en Tryz.func249 Tryz.ntmps249 ?_
  repeat' (first|refine aa.aD ?_|refine aa.bh true ?_|refine aa.ah (hm) ?_|refine aa.ae ?_|refine aa.af ?_|refine aa.au ?_|refine aa.ai ?_|intro _|refine aa.av ?_|refine aa.aI ?_)
  all_goals first|exact⟨rfl,rfl⟩|omega
 ·rw[if_neg h]
  unfold qW
  obtain⟨n,rfl⟩:=Int.eq_ofNat_of_zero_le hr.1
  rw[Int.toNat_natCast]
  have s0:∀la,gX la 0=0:=fun la=>Fw la
  have hq:=lG false 63
  cases la
  ·refine ACalls.en Tryz.func249 Tryz.ntmps249 ?_
   repeat (first|refine aa.aD ?_|refine aa.bh true ?_|refine aa.ah (hm) ?_|refine aa.ae ?_|refine aa.af ?_|refine aa.au ?_|refine aa.ai ?_)
   refine aa.weak (env':=[(25,I ((0:Nat):Int)),(24,I (n:Int)),(7,I 0),(0,B false),(2,I am)]) ⟨rfl,rfl,rfl,rfl,rfl,trivial⟩ ?_
   refine aa.loop (fun m env H=>∃k:Nat,m=n - k∧k≤n∧env=[(25,I (k:Int)),(24,I (n:Int)),(7,I (0+gX false k)),(0,B false),(2,I am)]∧H=[]) n
    ⟨0,rfl,by omega,by simp only[s0,Int.add_zero],rfl⟩ ?_
   rintro m env H ⟨k,rfl,hk,rfl,rfl⟩
   have hs:=lG false k
   have hmk:=uS (gl:=gl) false k
   have hbk:=ij false k
   have e1:=lX false k
   rcases Nat.lt_or_ge k n with hlt|hge
   ·repeat' (first|refine aa.aD ?_|refine aa.bh true ?_|refine aa.ah (hmk) ?_|refine aa.ae ?_|refine aa.af ?_|refine aa.au ?_|refine aa.ai ?_|intro _|refine aa.av ?_|refine aa.aI ?_)
    all_goals first|exact aa.round [(25,I ((k+1:Nat):Int)),(24,I (n:Int)),(7,I (0+gX false (k+1))),(0,B false),(2,I am)] (n - (k+1)) (by omega) ⟨rfl,rfl,congrArg I (by rw[e1];omega),rfl,rfl,trivial⟩ ⟨k+1,rfl,hlt,rfl,rfl⟩
   ·obtain rfl:k=n:=by omega
    repeat' (first|refine aa.aD ?_|refine aa.bh true ?_|refine aa.ae ?_|refine aa.af ?_|refine aa.au ?_|refine aa.ai ?_|intro _|refine aa.av ?_|refine aa.aI ?_)
    all_goals first|exact⟨congrArg I (by simp;omega),rfl⟩|exact⟨rfl,rfl⟩
  ·refine ACalls.en Tryz.func249 Tryz.ntmps249 ?_
   repeat (first|refine aa.aD ?_|refine aa.bh true ?_|refine aa.ah (hm) ?_|refine aa.ae ?_|refine aa.af ?_|refine aa.au ?_|refine aa.ai ?_)
   refine aa.weak (env':=[(16,I ((0:Nat):Int)),(7,I 0),(0,B true),(1,I (n:Int)),(2,I am)]) ⟨rfl,rfl,rfl,rfl,rfl,trivial⟩ ?_
   refine aa.loop (fun m env H=>∃k:Nat,m=63 - k∧k≤63∧env=[(16,I (k:Int)),(7,I (gX false k)),(0,B true),(1,I (n:Int)),(2,I am)]∧H=[]) 63
    ⟨0,rfl,by omega,by simp only[s0],rfl⟩ ?_
   rintro m env H ⟨k,rfl,hk,rfl,rfl⟩
   have hs:=lG false k
   have hmk:=uS (gl:=gl) false k
   have hbk:=ij false k
   have e1:=lX false k
   rcases Nat.lt_or_ge k 63 with hlt|hge
   ·repeat' (first|refine aa.aD ?_|refine aa.bh true ?_|refine aa.ah (hmk) ?_|refine aa.ae ?_|refine aa.af ?_|refine aa.au ?_|refine aa.ai ?_|intro _|refine aa.av ?_|refine aa.aI ?_)
    all_goals first|exact aa.round [(16,I ((k+1:Nat):Int)),(7,I (gX false (k+1))),(0,B true),(1,I (n:Int)),(2,I am)] (63 - (k+1)) (by omega) ⟨rfl,congrArg I (by rw[e1]),rfl,rfl,rfl,trivial⟩ ⟨k+1,rfl,hlt,rfl,rfl⟩
   ·obtain rfl:k=63:=by omega
    repeat (first|refine aa.aD ?_|refine aa.bh true ?_|refine aa.ae ?_|refine aa.af ?_|refine aa.au ?_|refine aa.ai ?_)
    refine aa.out rfl ⟨_,rfl,?_⟩
    repeat (first|refine aa.aD ?_|refine aa.bh true ?_|refine aa.ae ?_|refine aa.af ?_|refine aa.au ?_|refine aa.ai ?_)
    refine aa.weak (env':=[(25,I ((0:Nat):Int)),(24,I (n:Int)),(7,I (gX false 63)),(0,B true),(2,I am)]) ⟨rfl,rfl,rfl,rfl,rfl,trivial⟩ ?_
    refine aa.loop (fun m env H=>∃k:Nat,m=n - k∧k≤n∧env=[(25,I (k:Int)),(24,I (n:Int)),(7,I (gX false 63+gX true k)),(0,B true),(2,I am)]∧H=[]) n
     ⟨0,rfl,by omega,by simp only[s0,Int.add_zero],rfl⟩ ?_
    rintro m env H ⟨k,rfl,hk,rfl,rfl⟩
    have hs:=lG true k
    have hmk:=uS (gl:=gl) true k
    have hbk:=ij true k
    have e1:=lX true k
    rcases Nat.lt_or_ge k n with hlt|hge
    ·repeat' (first|refine aa.aD ?_|refine aa.bh true ?_|refine aa.ah (hmk) ?_|refine aa.ae ?_|refine aa.af ?_|refine aa.au ?_|refine aa.ai ?_|intro _|refine aa.av ?_|refine aa.aI ?_)
     all_goals first|exact aa.round [(25,I ((k+1:Nat):Int)),(24,I (n:Int)),(7,I (gX false 63+gX true (k+1))),(0,B true),(2,I am)] (n - (k+1)) (by omega) ⟨rfl,rfl,congrArg I (by rw[e1];omega),rfl,rfl,trivial⟩ ⟨k+1,rfl,hlt,rfl,rfl⟩
    ·obtain rfl:k=n:=by omega
     repeat' (first|refine aa.aD ?_|refine aa.bh true ?_|refine aa.ae ?_|refine aa.af ?_|refine aa.au ?_|refine aa.ai ?_|intro _|refine aa.av ?_|refine aa.aI ?_)
     all_goals first|exact⟨congrArg I (by simp;omega),rfl⟩|exact⟨rfl,rfl⟩
end Tc
namespace Tc
open Go Bt
attribute [local irreducible] aa ACalls
variable {gl:List (Nat×List D)}
def cd2 (k:Int):Int:=gi1.getD k.toNat 0
def ln2 (k:Int):Int:=gi2.getD k.toNat 0
theorem Mw:∀k:_root_.Fin 102,(0≤ln2 k.val∧ln2 k.val≤12)∧0≤cd2 k.val∧cd2 k.val<2^(ln2 k.val).toNat:=by decide +kernel
theorem JS (a:Int) (h:0≤a∧a≤101):(0≤ln2 a∧ln2 a≤12)∧0≤cd2 a∧cd2 a<2^(ln2 a).toNat:=by
 obtain⟨k,rfl⟩:=Int.eq_ofNat_of_zero_le h.1
 exact Mw ⟨k,by omega⟩
theorem LX:gl1=gi1.map (.int .i64):=rfl
theorem LV:gl2=gi2.map (.int .i64):=rfl
theorem JE:102*1≤gl1.length:=by unfold gl1;decide
theorem JA:102*1≤gl2.length:=by unfold gl2;decide
theorem JF (a:Int) (h:0≤a∧a≤101):(gl1.drop (a.toNat*1))[0]?=some (.int .i64 (cd2 a)):=by
 have hl:gi1.length=102:=rfl
 rw[LX,List.getElem?_drop,List.getElem?_map]
 simp[cd2,List.getD,hl,show a.toNat<102 by omega]
theorem JB (a:Int) (h:0≤a∧a≤101):(gl2.drop (a.toNat*1))[0]?=some (.int .i64 (ln2 a)):=by
 have hl:gi2.length=102:=rfl
 rw[LV,List.getElem?_drop,List.getElem?_map]
 simp[ln2,List.getD,hl,show a.toNat<102 by omega]
theorem Fj:∀la:Bool,∀ru:_root_.Fin 64,((gZ la ru.val).length:Int)=eP la ru.val∧∀a:_root_.Fin 12,(a.val:Int)<eP la ru.val→(0≤dE la ru.val (a.val+1)∧dE la ru.val (a.val+1)≤101) ∧
  (gZ la ru.val).getD a.val []=cH (cd2 (dE la ru.val (a.val+1))) (ln2 (dE la ru.val (a.val+1))).toNat (ln2 (dE la ru.val (a.val+1))).toNat∧(gZ la ru.val).getD a.val []≠[]:=by decide +kernel
theorem MV (la:Bool) (ru am:Int) (h:0≤ru∧ru≤63) (hm:eP la ru<am):kZ la ru am=[]∧dE la ru am = -1:=by
 obtain⟨k1,_⟩:=Fj la ⟨ru.toNat,by omega⟩
 simp only at k1
 rw[show ((ru.toNat:Nat):Int)=ru by omega]at k1
 unfold kZ dE
 rw[k1,if_pos hm,if_pos hm];exact⟨rfl,rfl⟩
theorem KS (la:Bool) (ru am:Int) (h:0≤ru∧ru≤63) (ha:1≤am) (hm:¬eP la ru<am):(0≤dE la ru am∧dE la ru am≤101)∧kZ la ru am=cH (cd2 (dE la ru am)) (ln2 (dE la ru am)).toNat (ln2 (dE la ru am)).toNat∧kZ la ru am≠[]:=by
 have hb:=ij la ru
 obtain⟨k1,k2⟩:=Fj la ⟨ru.toNat,by omega⟩
 have k3:=k2 ⟨(am - 1).toNat,by omega⟩
 simp only at k1 k3
 rw[show ((ru.toNat:Nat):Int)=ru by omega]at k1 k3
 rw[show (((am - 1).toNat:Nat):Int)=am - 1 by omega,show am - 1+1=am by omega]at k3
 have k4:=k3 (by omega)
 have e:kZ la ru am=(gZ la ru).getD (am - 1).toNat []:=by unfold kZ;rw[k1,if_neg hm]
 rw[e];exact k4
theorem Kb (n:Int):mE n=max n (-n):=by unfold mE;split<;>omega
attribute [local irreducible] bE jE y9 Aw gZ kZ cH dE eP cd2 ln2
end Tc
end Go.Proofs.YtbpednchkndocaaGreatDoor.Av
