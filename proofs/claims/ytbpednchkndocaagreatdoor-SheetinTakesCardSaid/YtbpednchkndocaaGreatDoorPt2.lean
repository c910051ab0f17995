/- The reference's rows of events. The reference's Row of an event. The program's rows of events: many, place. The program's rows of events: Row; it agrees with the reference's. -/
import Derived.Test.YtbpednchkndocaaGreatDoorPt1
set_option linter.unusedVariables false
set_option linter.unusedSimpArgs false
set_option maxRecDepth 100000
set_option maxHeartbeats 64000000
namespace Go.Proofs.YtbpednchkndocaaGreatDoor.Av
namespace Tc
open Go Bt
attribute [local irreducible] aa ACalls
variable {gl:List (Nat×List D)}
def yB:List (List UInt8):=[[49,48,32,49,49,49,49,32,48,49,48,49,48,49,32,48,48,49,48,49,49,49,32,48,48,48,49,49,49,49,49,32,48,48,48,49,48,48,49,48,49,32,48,48,48,49,48,48,49,48,48,32,48,48,48,48,49,48,48,48,48,49,32,48,48,48,48,49,48,48,48,48,48,32,48,48,48,48,48,48,48,48,49,49,49,32,48,48,48,48,48,48,48,48,49,49,48,32,48,48,48,48,48,49,48,48,48,48,48],[49,49,48,32,48,49,48,49,48,48,32,48,48,48,49,49,49,49,48,32,48,48,48,48,48,48,49,49,49,49,32,48,48,48,48,48,49,48,48,48,48,49,32,48,48,48,48,48,49,48,49,48,48,48,48],[49,49,49,48,32,48,48,48,49,49,49,48,49,32,48,48,48,48,48,48,49,49,49,48,32,48,48,48,48,48,49,48,49,48,48,48,49],[48,49,49,48,49,32,48,48,48,49,48,48,48,49,49,32,48,48,48,48,48,48,49,49,48,49],[48,49,49,48,48,32,48,48,48,49,48,48,48,49,48,32,48,48,48,48,48,49,48,49,48,48,49,48],[48,49,48,49,49,32,48,48,48,48,48,48,49,49,48,48,32,48,48,48,48,48,49,48,49,48,48,49,49],[48,49,48,48,49,49,32,48,48,48,48,48,48,49,48,49,49,32,48,48,48,48,48,49,48,49,48,49,48,48],[48,49,48,48,49,48,32,48,48,48,48,48,48,49,48,49,48],[48,49,48,48,48,49,32,48,48,48,48,48,48,49,48,48,49],[48,49,48,48,48,48,32,48,48,48,48,48,48,49,48,48,48],[48,48,49,48,49,49,48,32,48,48,48,48,48,49,48,49,48,49,48,49],[48,48,49,48,49,48,49],[48,48,49,48,49,48,48],[48,48,48,49,49,49,48,48],[48,48,48,49,49,48,49,49],[48,48,48,49,48,48,48,48,49],[48,48,48,49,48,48,48,48,48],[48,48,48,48,49,49,49,49,49],[48,48,48,48,49,49,49,49,48],[48,48,48,48,49,49,49,48,49],[48,48,48,48,49,49,49,48,48],[48,48,48,48,49,49,48,49,49],[48,48,48,48,49,49,48,49,48],[48,48,48,48,48,49,48,48,48,49,48],[48,48,48,48,48,49,48,48,48,49,49],[48,48,48,48,48,49,48,49,48,49,49,48],[48,48,48,48,48,49,48,49,48,49,49,49]]
def zU:List (List UInt8):=[[48,49,49,49,32,48,48,48,48,49,49,48,48,49,32,48,48,48,48,48,48,48,48,49,48,49],[48,48,49,49,49,49,32,48,48,48,48,48,48,48,48,49,48,48],[48,48,49,49,49,48],[48,48,49,49,48,49],[48,48,49,49,48,48],[48,48,49,48,48,49,49],[48,48,49,48,48,49,48],[48,48,49,48,48,48,49],[48,48,49,48,48,48,48],[48,48,48,49,49,48,49,48],[48,48,48,49,49,48,48,49],[48,48,48,49,49,48,48,48],[48,48,48,49,48,49,49,49],[48,48,48,49,48,49,49,48],[48,48,48,49,48,49,48,49],[48,48,48,49,48,49,48,48],[48,48,48,49,48,48,49,49],[48,48,48,48,49,49,48,48,48],[48,48,48,48,49,48,49,49,49],[48,48,48,48,49,48,49,49,48],[48,48,48,48,49,48,49,48,49],[48,48,48,48,49,48,49,48,48],[48,48,48,48,49,48,48,49,49],[48,48,48,48,49,48,48,49,48],[48,48,48,48,49,48,48,48,49],[48,48,48,48,48,48,48,49,49,49],[48,48,48,48,48,48,48,49,49,48],[48,48,48,48,48,48,48,49,48,49],[48,48,48,48,48,48,48,49,48,48],[48,48,48,48,48,49,48,48,49,48,48],[48,48,48,48,48,49,48,48,49,48,49],[48,48,48,48,48,49,48,48,49,49,48],[48,48,48,48,48,49,48,48,49,49,49],[48,48,48,48,48,49,48,49,49,48,48,48],[48,48,48,48,48,49,48,49,49,48,48,49],[48,48,48,48,48,49,48,49,49,48,49,48],[48,48,48,48,48,49,48,49,49,48,49,49],[48,48,48,48,48,49,48,49,49,49,48,48],[48,48,48,48,48,49,48,49,49,49,48,49],[48,48,48,48,48,49,48,49,49,49,49,48],[48,48,48,48,48,49,48,49,49,49,49,49]]
def mM (la:Bool):List (List UInt8):=if la=true then zU else yB
def fV (la:Bool) (ru:Int):List (List UInt8):=if (mM la).length≤ru.toNat then [] else iY ((mM la).getD ru.toNat [])
def j6 (la:Bool) (ru am:Int):List UInt8:=if ((fV la ru).length:Int)<am then [] else (fV la ru).getD (am - 1).toNat []
def K5 (n:Int):List UInt8:=if n<0 then [49] else [48]
def lw (n:Int):Int:=if n<0 then -n else n
def Nz (la:Bool):List UInt8:=if la=true then [49] else [48]
def qc (e:Ev):List UInt8:=if evR e=true then
    (if j6 e.last e.run (lw e.level)≠[] then j6 e.last e.run (lw e.level)++K5 e.level
     else (([48,48,48,48,48,49,49]++Nz e.last)++bL e.run 6 6)++bL (if e.level<0 then 256+e.level else e.level) 8 8)
  else []
theorem yJ:ACalls (cxg gl) 269 [] [] (fun r H=>r = .d (.sl 1 (aS yB))∧H=[]):=by
 unfold aS yB
 refine ACalls.en Tryz.func269 Tryz.ntmps269 ?_
 repeat' (first|intro _|refine aa.bA ?_)
 all_goals first|exact⟨rfl,rfl⟩
theorem B0:ACalls (cxg gl) 270 [] [] (fun r H=>r = .d (.sl 1 (aS zU))∧H=[]):=by
 unfold aS zU
 refine ACalls.en Tryz.func270 Tryz.ntmps270 ?_
 repeat' (first|intro _|refine aa.bA ?_)
 all_goals first|exact⟨rfl,rfl⟩
theorem Bm:∀la:Bool,∀s∈mM la,s.length≤100000:=by decide +kernel
attribute [local irreducible] aS iY yB zU
theorem yK (la:Bool) (ru:Int) (h0:0≤ru) (h:((mM la).length:Int)≤ru):ACalls (cxg gl) 240 [B la,I ru] [] (fun r H=>r = .d .aG∧H=[]):=by
 have t1:=yJ (gl:=gl)
 have t2:=B0 (gl:=gl)
 have hl:=fG (mM la)
 cases la
 all_goals
  unfold mM at hl h
  simp only[Bool.false_eq_true,if_false,if_true]at hl h
  refine ACalls.en Tryz.func240 Tryz.ntmps240 ?_
  repeat' (first|refine aa.ae (t1) ?_|refine aa.ae (t2) ?_|intro _|refine aa.bA ?_)
  all_goals first|exact⟨rfl,rfl⟩|omega
theorem vF (la:Bool) (ru:Int) (h0:0≤ru) (h:ru<((mM la).length:Int)):ACalls (cxg gl) 240 [B la,I ru] [] (fun r H=>r = .own 1 (aS (fV la ru)) 0∧H=[.front 9 1 (aS (fV la ru)).length]):=by
 have t1:=yJ (gl:=gl)
 have t2:=B0 (gl:=gl)
 have g:=jS (mM la) ru.toNat (by omega)
 have hs:((mM la).getD ru.toNat []).length≤100000:=by
  rw[List.getD_eq_getElem?_getD,List.getElem?_eq_getElem (by omega)]
  exact Bm la _ (List.getElem_mem _)
 have w:=Ia (gl:=gl) ((mM la).getD ru.toNat []) hs
 have e:fV la ru=iY ((mM la).getD ru.toNat []):=by unfold fV;rw[if_neg (by omega)]
 rw[e]
 have hl:=fG (mM la)
 generalize iY ((mM la).getD ru.toNat [])=W at *
 generalize (mM la).getD ru.toNat []=X at *
 cases la
 all_goals
  unfold mM at hl h g
  simp only[Bool.false_eq_true,if_false,if_true]at hl h g
  refine ACalls.en Tryz.func240 Tryz.ntmps240 ?_
  repeat' (first|(apply aa.q true;rfl;rfl;rfl;rfl;first|exact True.intro|omega|(simp only[tn,Int.reduceToNat];omega)|(rw[hl];omega))|refine aa.ah [] ( w) ?_|refine aa.ae (t1) ?_|refine aa.ae (t2) ?_|(apply aa.fO;(iterate 7 rfl);exact g)|intro _|refine aa.bA ?_)
  all_goals first|omega|skip
  (apply aa.wV 1;rfl;rfl;rfl;rfl;rfl)
  exact⟨rfl,rfl⟩
theorem HY (n:Int) (h : -1000≤n∧n≤1000):ACalls (cxg gl) 243 [I n] [] (fun r H=>r=I (lw n)∧H=[]):=by
 unfold lw
 by_cases h:n<0
 ·rw[if_pos h]
  refine ACalls.en Tryz.func243 Tryz.ntmps243 ?_
  repeat' (first|intro _|refine aa.bA ?_)
  all_goals first|exact⟨rfl,rfl⟩
 ·rw[if_neg h]
  refine ACalls.en Tryz.func243 Tryz.ntmps243 ?_
  repeat' (first|intro _|refine aa.bA ?_)
  all_goals first|exact⟨rfl,rfl⟩
attribute [local irreducible] fV
theorem NC (la:Bool) (ru am:Int) (h0:0≤ru) (ha:1≤am) (ha2:am≤1000):ACalls (cxg gl) 242 [B la,I ru,I am] [] (fun r H=>r=S (j6 la ru am)∧H=[]):=by
 unfold j6
 by_cases hr:((mM la).length:Int)≤ru
 ·have e:fV la ru=[]:=by unfold fV;rw[if_pos (by omega)]
  rw[e,if_pos (by simp only[List.length_nil];omega)]
  have w:=yK (gl:=gl) la ru h0 hr
  refine ACalls.en Tryz.func242 Tryz.ntmps242 ?_
  repeat' (first|refine aa.ae (w) ?_|intro _|refine aa.bA ?_)
  all_goals first|exact⟨rfl,rfl⟩|omega
 ·have w:=vF (gl:=gl) la ru h0 (by omega)
  have hl:=fG (fV la ru)
  by_cases hm:((fV la ru).length:Int)<am
  ·rw[if_pos hm]
   refine ACalls.en Tryz.func242 Tryz.ntmps242 ?_
   repeat' (first|refine aa.ah [] ( w) ?_|intro _|refine aa.bA ?_)
   all_goals first|exact⟨rfl,rfl⟩|omega
  ·rw[if_neg hm]
   have g:=jS (fV la ru) (am - 1).toNat (by omega)
   refine ACalls.en Tryz.func242 Tryz.ntmps242 ?_
   repeat' (first|(apply aa.q true;rfl;rfl;rfl;rfl;first|exact True.intro|omega|(simp only[tn,Int.reduceToNat];omega)|(rw[hl];omega))|refine aa.ah [] ( w) ?_|(apply aa.fO;(iterate 7 rfl);exact g)|intro _|refine aa.bA ?_)
   all_goals first|exact⟨rfl,rfl⟩|omega
end Tc
namespace Tc
open Go Bt
attribute [local irreducible] aa ACalls
variable {gl:List (Nat×List D)}
theorem Dn {n:Int} (h:n≠0 ∧ -127≤n∧n≤127):1≤lw n∧lw n≤127:=by unfold lw;split<;>omega
theorem Dr:∀la:Bool,∀ru:_root_.Fin 64,∀w∈fV la ru.val,w.length≤12:=by decide +kernel
theorem GL (la:Bool) (ru am:Int) (h:0≤ru∧ru≤63):(j6 la ru am).length≤12:=by
 unfold j6
 split
 ·simp
 ·rename_i hm
  rw[List.getD_eq_getElem?_getD]
  cases hx:(fV la ru)[(am - 1).toNat]? with
  |none=>simp
  |some w =>
   have:=Dr la ⟨ru.toNat,by omega⟩ w
   simp only at this
   rw[show ((ru.toNat:Nat):Int)=ru by omega]at this
   exact this (List.mem_of_getElem? hx)
attribute [local irreducible] aS iY yB zU fV j6 bL
end Tc
namespace Tc
open Go Bt
attribute [local irreducible] aa ACalls
variable {gl:List (Nat×List D)}
noncomputable abbrev gtc:List (Nat×List D):=[(1,gl1),(2,gl2)]
def dL (la:Bool) (ru:Int):Int:=if la=true then (if ru=0 then 3 else if ru=1 then 2 else if ru≤40 then 1 else 0)
 else (if ru=0 then 12 else if ru=1 then 6 else if ru=2 then 4 else if ru≤6 then 3 else if ru≤10 then 2 else if ru≤26 then 1 else 0)
def fT (la:Bool):Nat→Int
 |0=>0
 |n+1=>fT la n+dL la n
def qp (la:Bool):Int:=if la=true then fT false 63 else 0
def cG (la:Bool) (ru am:Int):Int:=if dL la ru<am then -1 else qp la+fT la ru.toNat+am - 1
theorem gm (la:Bool) (ru:Int):0≤dL la ru∧dL la ru≤12:=by unfold dL;repeat' split;all_goals omega
theorem kF (la:Bool):∀n,0≤fT la n∧fT la n≤12*n
 |0=>by simp[fT]
 |n+1=>by have:=kF la n;have:=gm la n;simp only[fT];omega
theorem uo (la:Bool) (ru:Int):ACalls (cxg gl) 274 [B la,I ru] [] (fun r H=>r=I (dL la ru)∧H=[]):=by
 cases la
 all_goals
  refine ACalls.en Tryz.func274 Tryz.ntmps274 ?_
  repeat' (first|refine aa.bN true ?_|intro _|(apply aa.dB ;rfl)|refine aa.bA ?_)
  all_goals refine⟨congrArg I ?_,rfl⟩
  all_goals unfold dL
  all_goals simp only[Bool.false_eq_true,if_false,if_true]
  all_goals repeat' split
  all_goals first|rfl|omega|(simp only[bT]at *;omega)
attribute [local irreducible] dL
theorem kV (la:Bool) (n:Nat):fT la (n+1)=fT la n+dL la n:=rfl
theorem E8 (la:Bool):fT la 0=0:=rfl
attribute [local irreducible] fT
theorem I0 (la:Bool) (ru am:Int) (hr:0≤ru∧ru≤63) (ha:1≤am∧am≤127):ACalls (cxg gl) 249 [B la,I ru,I am] [] (fun r H=>r=I (cG la ru am)∧H=[]):=by
 have hm:=uo (gl:=gl) la ru
 have hb:=gm la ru
 unfold cG
 by_cases h:dL la ru<am
 ·rw[if_pos h]
  refine ACalls.en Tryz.func249 Tryz.ntmps249 ?_
  repeat' (first|refine aa.ae (hm) ?_|intro _|refine aa.aR ?_)
  all_goals first|exact⟨rfl,rfl⟩|omega
 ·rw[if_neg h]
  unfold qp
  obtain⟨n,rfl⟩:=Int.eq_ofNat_of_zero_le hr.1
  rw[Int.toNat_natCast]
  have s0:∀la,fT la 0=0:=fun la=>E8 la
  have hq:=kF false 63
  cases la
  ·refine ACalls.en Tryz.func249 Tryz.ntmps249 ?_
   repeat (first|refine aa.ae (hm) ?_|refine aa.dG ?_)
   refine aa.weak (env':=[(25,I ((0:Nat):Int)),(24,I (n:Int)),(7,I 0),(0,B false),(2,I am)]) ⟨rfl,rfl,rfl,rfl,rfl,trivial⟩ ?_
   refine aa.loop (fun m env H=>∃k:Nat,m=n - k∧k≤n∧env=[(25,I (k:Int)),(24,I (n:Int)),(7,I (0+fT false k)),(0,B false),(2,I am)]∧H=[]) n
    ⟨0,rfl,by omega,by simp only[s0,Int.add_zero],rfl⟩ ?_
   rintro m env H ⟨k,rfl,hk,rfl,rfl⟩
   have hs:=kF false k
   have hmk:=uo (gl:=gl) false k
   have hbk:=gm false k
   have e1:=kV false k
   rcases Nat.lt_or_ge k n with hlt|hge
   ·repeat' (first|refine aa.ae (hmk) ?_|intro _|refine aa.aR ?_)
    all_goals first|exact aa.round [(25,I ((k+1:Nat):Int)),(24,I (n:Int)),(7,I (0+fT false (k+1))),(0,B false),(2,I am)] (n - (k+1)) (by omega) ⟨rfl,rfl,congrArg I (by rw[e1];omega),rfl,rfl,trivial⟩ ⟨k+1,rfl,hlt,rfl,rfl⟩
   ·obtain rfl:k=n:=by omega
    repeat' (first|intro _|refine aa.aR ?_)
    all_goals first|exact⟨congrArg I (by simp;omega),rfl⟩|exact⟨rfl,rfl⟩
  ·refine ACalls.en Tryz.func249 Tryz.ntmps249 ?_
   repeat (first|refine aa.ae (hm) ?_|refine aa.dG ?_)
   refine aa.weak (env':=[(16,I ((0:Nat):Int)),(7,I 0),(0,B true),(1,I (n:Int)),(2,I am)]) ⟨rfl,rfl,rfl,rfl,rfl,trivial⟩ ?_
   refine aa.loop (fun m env H=>∃k:Nat,m=63 - k∧k≤63∧env=[(16,I (k:Int)),(7,I (fT false k)),(0,B true),(1,I (n:Int)),(2,I am)]∧H=[]) 63
    ⟨0,rfl,by omega,by simp only[s0],rfl⟩ ?_
   rintro m env H ⟨k,rfl,hk,rfl,rfl⟩
   have hs:=kF false k
   have hmk:=uo (gl:=gl) false k
   have hbk:=gm false k
   have e1:=kV false k
   rcases Nat.lt_or_ge k 63 with hlt|hge
   ·repeat' (first|refine aa.ae (hmk) ?_|intro _|refine aa.aR ?_)
    all_goals first|exact aa.round [(16,I ((k+1:Nat):Int)),(7,I (fT false (k+1))),(0,B true),(1,I (n:Int)),(2,I am)] (63 - (k+1)) (by omega) ⟨rfl,congrArg I (by rw[e1]),rfl,rfl,rfl,trivial⟩ ⟨k+1,rfl,hlt,rfl,rfl⟩
   ·obtain rfl:k=63:=by omega
    repeat (first|refine aa.dG ?_)
    refine aa.out rfl ⟨_,rfl,?_⟩
    repeat (first|refine aa.dG ?_)
    refine aa.weak (env':=[(25,I ((0:Nat):Int)),(24,I (n:Int)),(7,I (fT false 63)),(0,B true),(2,I am)]) ⟨rfl,rfl,rfl,rfl,rfl,trivial⟩ ?_
    refine aa.loop (fun m env H=>∃k:Nat,m=n - k∧k≤n∧env=[(25,I (k:Int)),(24,I (n:Int)),(7,I (fT false 63+fT true k)),(0,B true),(2,I am)]∧H=[]) n
     ⟨0,rfl,by omega,by simp only[s0,Int.add_zero],rfl⟩ ?_
    rintro m env H ⟨k,rfl,hk,rfl,rfl⟩
    have hs:=kF true k
    have hmk:=uo (gl:=gl) true k
    have hbk:=gm true k
    have e1:=kV true k
    rcases Nat.lt_or_ge k n with hlt|hge
    ·repeat' (first|refine aa.ae (hmk) ?_|intro _|refine aa.aR ?_)
     all_goals first|exact aa.round [(25,I ((k+1:Nat):Int)),(24,I (n:Int)),(7,I (fT false 63+fT true (k+1))),(0,B true),(2,I am)] (n - (k+1)) (by omega) ⟨rfl,rfl,congrArg I (by rw[e1];omega),rfl,rfl,trivial⟩ ⟨k+1,rfl,hlt,rfl,rfl⟩
    ·obtain rfl:k=n:=by omega
     repeat' (first|intro _|refine aa.aR ?_)
     all_goals first|exact⟨congrArg I (by simp;omega),rfl⟩|exact⟨rfl,rfl⟩
end Tc
namespace Tc
open Go Bt
attribute [local irreducible] aa ACalls
variable {gl:List (Nat×List D)}
def cd2 (k:Int):Int:=gi1.getD k.toNat 0
def ln2 (k:Int):Int:=gi2.getD k.toNat 0
theorem Mw:∀k:_root_.Fin 102,(0≤ln2 k.val∧ln2 k.val≤12)∧0≤cd2 k.val∧cd2 k.val<2^(ln2 k.val).toNat:=by decide +kernel
theorem JP (a:Int) (h:0≤a∧a≤101):(0≤ln2 a∧ln2 a≤12)∧0≤cd2 a∧cd2 a<2^(ln2 a).toNat:=by
 obtain⟨k,rfl⟩:=Int.eq_ofNat_of_zero_le h.1
 exact Mw ⟨k,by omega⟩
theorem LX:gl1=gi1.map (.int .i64):=rfl
theorem LV:gl2=gi2.map (.int .i64):=rfl
theorem Jz:102*1≤gl1.length:=by unfold gl1;decide
theorem Ju:102*1≤gl2.length:=by unfold gl2;decide
theorem JA (a:Int) (h:0≤a∧a≤101):(gl1.drop (a.toNat*1))[0]?=some (.int .i64 (cd2 a)):=by
 have hl:gi1.length=102:=rfl
 rw[LX,List.getElem?_drop,List.getElem?_map]
 simp[cd2,List.getD,hl,show a.toNat<102 by omega]
theorem Jv (a:Int) (h:0≤a∧a≤101):(gl2.drop (a.toNat*1))[0]?=some (.int .i64 (ln2 a)):=by
 have hl:gi2.length=102:=rfl
 rw[LV,List.getElem?_drop,List.getElem?_map]
 simp[ln2,List.getD,hl,show a.toNat<102 by omega]
theorem EU:∀la:Bool,∀ru:_root_.Fin 64,((fV la ru.val).length:Int)=dL la ru.val∧∀a:_root_.Fin 12,(a.val:Int)<dL la ru.val→(0≤cG la ru.val (a.val+1)∧cG la ru.val (a.val+1)≤101) ∧
  (fV la ru.val).getD a.val []=bL (cd2 (cG la ru.val (a.val+1))) (ln2 (cG la ru.val (a.val+1))).toNat (ln2 (cG la ru.val (a.val+1))).toNat∧(fV la ru.val).getD a.val []≠[]:=by decide +kernel
theorem M0 (la:Bool) (ru am:Int) (h:0≤ru∧ru≤63) (hm:dL la ru<am):j6 la ru am=[]∧cG la ru am = -1:=by
 obtain⟨k1,_⟩:=EU la ⟨ru.toNat,by omega⟩
 simp only at k1
 rw[show ((ru.toNat:Nat):Int)=ru by omega]at k1
 unfold j6 cG
 rw[k1,if_pos hm,if_pos hm];exact⟨rfl,rfl⟩
theorem KQ (la:Bool) (ru am:Int) (h:0≤ru∧ru≤63) (ha:1≤am) (hm:¬dL la ru<am):(0≤cG la ru am∧cG la ru am≤101)∧j6 la ru am=bL (cd2 (cG la ru am)) (ln2 (cG la ru am)).toNat (ln2 (cG la ru am)).toNat∧j6 la ru am≠[]:=by
 have hb:=gm la ru
 obtain⟨k1,k2⟩:=EU la ⟨ru.toNat,by omega⟩
 have k3:=k2 ⟨(am - 1).toNat,by omega⟩
 simp only at k1 k3
 rw[show ((ru.toNat:Nat):Int)=ru by omega]at k1 k3
 rw[show (((am - 1).toNat:Nat):Int)=am - 1 by omega,show am - 1+1=am by omega]at k3
 have k4:=k3 (by omega)
 have e:j6 la ru am=(fV la ru).getD (am - 1).toNat []:=by unfold j6;rw[k1,if_neg hm]
 rw[e];exact k4
theorem J8 (n:Int):lw n=max n (-n):=by unfold lw;split<;>omega
attribute [local irreducible] aS iY yB zU fV j6 bL cG dL cd2 ln2
end Tc
end Go.Proofs.YtbpednchkndocaaGreatDoor.Av
