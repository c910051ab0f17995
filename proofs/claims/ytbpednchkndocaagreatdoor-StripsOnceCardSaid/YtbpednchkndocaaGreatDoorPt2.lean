/- The reference's rows of events. The reference's Row of an event. The program's rows of events: many, place. The program's rows of events: Row; it agrees with the reference's. -/
import Derived.Test.YtbpednchkndocaaGreatDoorPt1
set_option linter.unusedVariables false
set_option linter.unusedSimpArgs false
set_option maxRecDepth 100000
set_option maxHeartbeats 64000000
namespace Go.Proofs.YtbpednchkndocaaGreatDoor.Av
namespace Tc
open Go Bt
attribute [local irreducible] aa ACalls
variable {gl:List (Nat×List D)}
def IC:List (List UInt8):=[[49,48,32,49,49,49,49,32,48,49,48,49,48,49,32,48,48,49,48,49,49,49,32,48,48,48,49,49,49,49,49,32,48,48,48,49,48,48,49,48,49,32,48,48,48,49,48,48,49,48,48,32,48,48,48,48,49,48,48,48,48,49,32,48,48,48,48,49,48,48,48,48,48,32,48,48,48,48,48,48,48,48,49,49,49,32,48,48,48,48,48,48,48,48,49,49,48,32,48,48,48,48,48,49,48,48,48,48,48],[49,49,48,32,48,49,48,49,48,48,32,48,48,48,49,49,49,49,48,32,48,48,48,48,48,48,49,49,49,49,32,48,48,48,48,48,49,48,48,48,48,49,32,48,48,48,48,48,49,48,49,48,48,48,48],[49,49,49,48,32,48,48,48,49,49,49,48,49,32,48,48,48,48,48,48,49,49,49,48,32,48,48,48,48,48,49,48,49,48,48,48,49],[48,49,49,48,49,32,48,48,48,49,48,48,48,49,49,32,48,48,48,48,48,48,49,49,48,49],[48,49,49,48,48,32,48,48,48,49,48,48,48,49,48,32,48,48,48,48,48,49,48,49,48,48,49,48],[48,49,48,49,49,32,48,48,48,48,48,48,49,49,48,48,32,48,48,48,48,48,49,48,49,48,48,49,49],[48,49,48,48,49,49,32,48,48,48,48,48,48,49,48,49,49,32,48,48,48,48,48,49,48,49,48,49,48,48],[48,49,48,48,49,48,32,48,48,48,48,48,48,49,48,49,48],[48,49,48,48,48,49,32,48,48,48,48,48,48,49,48,48,49],[48,49,48,48,48,48,32,48,48,48,48,48,48,49,48,48,48],[48,48,49,48,49,49,48,32,48,48,48,48,48,49,48,49,48,49,48,49],[48,48,49,48,49,48,49],[48,48,49,48,49,48,48],[48,48,48,49,49,49,48,48],[48,48,48,49,49,48,49,49],[48,48,48,49,48,48,48,48,49],[48,48,48,49,48,48,48,48,48],[48,48,48,48,49,49,49,49,49],[48,48,48,48,49,49,49,49,48],[48,48,48,48,49,49,49,48,49],[48,48,48,48,49,49,49,48,48],[48,48,48,48,49,49,48,49,49],[48,48,48,48,49,49,48,49,48],[48,48,48,48,48,49,48,48,48,49,48],[48,48,48,48,48,49,48,48,48,49,49],[48,48,48,48,48,49,48,49,48,49,49,48],[48,48,48,48,48,49,48,49,48,49,49,49]]
def KT:List (List UInt8):=[[48,49,49,49,32,48,48,48,48,49,49,48,48,49,32,48,48,48,48,48,48,48,48,49,48,49],[48,48,49,49,49,49,32,48,48,48,48,48,48,48,48,49,48,48],[48,48,49,49,49,48],[48,48,49,49,48,49],[48,48,49,49,48,48],[48,48,49,48,48,49,49],[48,48,49,48,48,49,48],[48,48,49,48,48,48,49],[48,48,49,48,48,48,48],[48,48,48,49,49,48,49,48],[48,48,48,49,49,48,48,49],[48,48,48,49,49,48,48,48],[48,48,48,49,48,49,49,49],[48,48,48,49,48,49,49,48],[48,48,48,49,48,49,48,49],[48,48,48,49,48,49,48,48],[48,48,48,49,48,48,49,49],[48,48,48,48,49,49,48,48,48],[48,48,48,48,49,48,49,49,49],[48,48,48,48,49,48,49,49,48],[48,48,48,48,49,48,49,48,49],[48,48,48,48,49,48,49,48,48],[48,48,48,48,49,48,48,49,49],[48,48,48,48,49,48,48,49,48],[48,48,48,48,49,48,48,48,49],[48,48,48,48,48,48,48,49,49,49],[48,48,48,48,48,48,48,49,49,48],[48,48,48,48,48,48,48,49,48,49],[48,48,48,48,48,48,48,49,48,48],[48,48,48,48,48,49,48,48,49,48,48],[48,48,48,48,48,49,48,48,49,48,49],[48,48,48,48,48,49,48,48,49,49,48],[48,48,48,48,48,49,48,48,49,49,49],[48,48,48,48,48,49,48,49,49,48,48,48],[48,48,48,48,48,49,48,49,49,48,48,49],[48,48,48,48,48,49,48,49,49,48,49,48],[48,48,48,48,48,49,48,49,49,48,49,49],[48,48,48,48,48,49,48,49,49,49,48,48],[48,48,48,48,48,49,48,49,49,49,48,49],[48,48,48,48,48,49,48,49,49,49,49,48],[48,48,48,48,48,49,48,49,49,49,49,49]]
def RX(la:Bool):List (List UInt8):=if la=true then KT else IC
def rB(la:Bool)(ru:Int):List (List UInt8):=if (RX la).length≤ru.toNat then [] else wD ((RX la).getD ru.toNat [])
def kP(la:Bool)(ru am:Int):List UInt8:=if ((rB la ru).length:Int)<am then [] else (rB la ru).getD (am-1).toNat []
def uw(n:Int):List UInt8:=if n<0 then [49] else [48]
def kI(n:Int):Int:=if n<0 then -n else n
def rQ(la:Bool):List UInt8:=if la=true then [49] else [48]
def cW(e:Ev):List UInt8:=if evR e=true then
    (if kP e.last e.run (kI e.level) ≠ [] then kP e.last e.run (kI e.level) ++ uw e.level
     else (([48,48,48,48,48,49,49]++rQ e.last)++bU e.run 6 6)++bU (if e.level<0 then 256+e.level else e.level) 8 8)
  else []
attribute [local irreducible] kr wD IC KT
attribute [local irreducible] rB
end Tc
namespace Tc
open Go Bt
attribute [local irreducible] aa ACalls
variable {gl:List (Nat×List D)}
theorem Bp{n:Int}(h:n≠0 ∧ -127≤n∧n≤127):1≤kI n∧kI n≤127:=by unfold kI;split<;>omega
theorem sF(n:Int):(uw n).length=1:=by unfold uw;split<;>rfl
theorem GD:∀la:Bool,∀ru:_root_.Fin 64,∀w∈rB la ru.val,w.length≤12:=by decide +kernel
theorem Kr(la:Bool)(ru am:Int)(h:0≤ru∧ru≤63):(kP la ru am).length≤12:=by
 unfold kP;split
 ·simp
 ·rename_i hm;rw[List.getD_eq_getElem?_getD];cases hx:(rB la ru)[(am-1).toNat]? with
  |none=>simp
  |some w =>
   have:=GD la ⟨ru.toNat,by omega⟩ w;simp only at this;rw[show ((ru.toNat:Nat):Int)=ru by omega]at this;exact this (List.mem_of_getElem? hx)
attribute [local irreducible] kr wD IC KT rB kP bU
end Tc
namespace Tc
open Go Bt
attribute [local irreducible] aa ACalls
variable {gl:List (Nat×List D)}
noncomputable abbrev gtc:List (Nat×List D):=[(1,gl1),(2,gl2)]
def dx(la:Bool)(ru:Int):Int:=if la=true then (if ru=0 then 3 else if ru=1 then 2 else if ru≤40 then 1 else 0)
 else (if ru=0 then 12 else if ru=1 then 6 else if ru=2 then 4 else if ru≤6 then 3 else if ru≤10 then 2 else if ru≤26 then 1 else 0)
def iR(la:Bool):Nat→Int
 |0=>0
 |n+1=>iR la n+dx la n
def uh(la:Bool):Int:=if la=true then iR false 63 else 0
def dD(la:Bool)(ru am:Int):Int:=if dx la ru<am then -1 else uh la+iR la ru.toNat+am-1
theorem iZ(la:Bool)(ru:Int):0≤dx la ru∧dx la ru≤12:=by unfold dx;repeat' split;all_goals omega
theorem mM(la:Bool):∀n,0≤iR la n∧iR la n≤12*n
 |0=>by simp[iR]
 |n+1=>by have:=mM la n;have:=iZ la n;simp only[iR];omega
theorem xk(la:Bool)(ru:Int):ACalls (cxg gl) 274 [B la,I ru] [] (fun r H=>r=I (dx la ru)∧H=[]):=by
 cases la;all_goals
  refine ACalls.en Tryz.func274 Tryz.ntmps274 ?_;repeat' (first|refine aa.aF ?_|refine aa.bh true ?_|refine aa.aB ?_|refine aa.ak ?_|refine aa.au ?_|refine aa.aC ?_|intro _|(apply aa.cZ ;rfl)|refine aa.aA ?_)
  all_goals refine⟨congrArg I ?_,rfl⟩
  all_goals unfold dx
  all_goals simp only[Bool.false_eq_true,if_false,if_true]
  all_goals repeat' split
  all_goals first|rfl|omega|(simp only[bT]at *;omega)
attribute [local irreducible] dx
theorem nJ(la:Bool)(n:Nat):iR la (n+1)=iR la n+dx la n:=rfl
theorem IK(la:Bool):iR la 0=0:=rfl
attribute [local irreducible] iR
theorem Fy(la:Bool)(ru am:Int)(hr:0≤ru∧ru≤63)(ha:1≤am∧am≤127):ACalls (cxg gl) 249 [B la,I ru,I am] [] (fun r H=>r=I (dD la ru am)∧H=[]):=by
 have hm:=xk (gl:=gl) la ru;have hb:=iZ la ru;unfold dD;by_cases h:dx la ru<am
 ·rw[if_pos h];refine ACalls.en Tryz.func249 Tryz.ntmps249 ?_;repeat' (first|refine aa.aF ?_|refine aa.bh true ?_|refine aa.av (hm) ?_|refine aa.ah ?_|refine aa.ae ?_|refine aa.aB ?_|refine aa.ak ?_|intro _|refine aa.aA ?_|refine aa.aJ ?_)
  all_goals exact Tn
 ·rw[if_neg h];unfold uh;obtain⟨n,rfl⟩:=Int.eq_ofNat_of_zero_le hr.1;rw[Int.toNat_natCast];have s0:∀la,iR la 0=0:=fun la=>IK la
  have hq:=mM false 63;cases la
  ·refine ACalls.en Tryz.func249 Tryz.ntmps249 ?_;repeat (first|refine aa.aF ?_|refine aa.bh true ?_|refine aa.av (hm) ?_|refine aa.ah ?_|refine aa.ae ?_|refine aa.aB ?_|refine aa.ak ?_)
   refine aa.weak (env':=[(25,I ((0:Nat):Int)),(24,I (n:Int)),(7,I 0),(0,B false),(2,I am)]) ⟨rfl,rfl,rfl,rfl,rfl,trivial⟩ ?_;refine aa.loop (fun m env H=>∃k:Nat,m=n-k∧k≤n∧env=[(25,I (k:Int)),(24,I (n:Int)),(7,I (0+iR false k)),(0,B false),(2,I am)]∧H=[]) n
    ⟨0,rfl,by omega,by simp only[s0,Int.add_zero],rfl⟩ ?_
   rintro m env H ⟨k,rfl,hk,rfl,rfl⟩;have hs:=mM false k;have hmk:=xk (gl:=gl) false k;have hbk:=iZ false k;have e1:=nJ false k;rcases Nat.lt_or_ge k n with hlt|hge
   ·repeat' (first|refine aa.aF ?_|refine aa.bh true ?_|refine aa.av (hmk) ?_|refine aa.ah ?_|refine aa.ae ?_|refine aa.aB ?_|refine aa.ak ?_|intro _|refine aa.aA ?_|refine aa.aJ ?_)
    all_goals first|exact aa.round [(25,I ((k+1:Nat):Int)),(24,I (n:Int)),(7,I (0+iR false (k+1))),(0,B false),(2,I am)] (n-(k+1)) (by omega) ⟨rfl,rfl,congrArg I (by rw[e1];omega),rfl,rfl,trivial⟩ ⟨k+1,rfl,hlt,rfl,rfl⟩
   ·obtain rfl:k=n:=by omega
    repeat' (first|refine aa.aF ?_|refine aa.bh true ?_|refine aa.ah ?_|refine aa.ae ?_|refine aa.aB ?_|refine aa.ak ?_|intro _|refine aa.aA ?_|refine aa.aJ ?_)
    all_goals first|exact⟨congrArg I (by simp;omega),rfl⟩|exact⟨rfl,rfl⟩
  ·refine ACalls.en Tryz.func249 Tryz.ntmps249 ?_;repeat (first|refine aa.aF ?_|refine aa.bh true ?_|refine aa.av (hm) ?_|refine aa.ah ?_|refine aa.ae ?_|refine aa.aB ?_|refine aa.ak ?_)
   refine aa.weak (env':=[(16,I ((0:Nat):Int)),(7,I 0),(0,B true),(1,I (n:Int)),(2,I am)]) ⟨rfl,rfl,rfl,rfl,rfl,trivial⟩ ?_;refine aa.loop (fun m env H=>∃k:Nat,m=63-k∧k≤63∧env=[(16,I (k:Int)),(7,I (iR false k)),(0,B true),(1,I (n:Int)),(2,I am)]∧H=[]) 63
    ⟨0,rfl,by omega,by simp only[s0],rfl⟩ ?_
   rintro m env H ⟨k,rfl,hk,rfl,rfl⟩;have hs:=mM false k;have hmk:=xk (gl:=gl) false k;have hbk:=iZ false k;have e1:=nJ false k;rcases Nat.lt_or_ge k 63 with hlt|hge
   ·repeat' (first|refine aa.aF ?_|refine aa.bh true ?_|refine aa.av (hmk) ?_|refine aa.ah ?_|refine aa.ae ?_|refine aa.aB ?_|refine aa.ak ?_|intro _|refine aa.aA ?_|refine aa.aJ ?_)
    all_goals first|exact aa.round [(16,I ((k+1:Nat):Int)),(7,I (iR false (k+1))),(0,B true),(1,I (n:Int)),(2,I am)] (63-(k+1)) (by omega) ⟨rfl,congrArg I (by rw[e1]),rfl,rfl,rfl,trivial⟩ ⟨k+1,rfl,hlt,rfl,rfl⟩
   ·obtain rfl:k=63:=by omega
    repeat (first|refine aa.aF ?_|refine aa.bh true ?_|refine aa.ah ?_|refine aa.ae ?_|refine aa.aB ?_|refine aa.ak ?_)
    refine aa.out rfl ⟨_,rfl,?_⟩;repeat (first|refine aa.aF ?_|refine aa.bh true ?_|refine aa.ah ?_|refine aa.ae ?_|refine aa.aB ?_|refine aa.ak ?_)
    refine aa.weak (env':=[(25,I ((0:Nat):Int)),(24,I (n:Int)),(7,I (iR false 63)),(0,B true),(2,I am)]) ⟨rfl,rfl,rfl,rfl,rfl,trivial⟩ ?_;refine aa.loop (fun m env H=>∃k:Nat,m=n-k∧k≤n∧env=[(25,I (k:Int)),(24,I (n:Int)),(7,I (iR false 63+iR true k)),(0,B true),(2,I am)]∧H=[]) n
     ⟨0,rfl,by omega,by simp only[s0,Int.add_zero],rfl⟩ ?_
    rintro m env H ⟨k,rfl,hk,rfl,rfl⟩;have hs:=mM true k;have hmk:=xk (gl:=gl) true k;have hbk:=iZ true k;have e1:=nJ true k;rcases Nat.lt_or_ge k n with hlt|hge
    ·repeat' (first|refine aa.aF ?_|refine aa.bh true ?_|refine aa.av (hmk) ?_|refine aa.ah ?_|refine aa.ae ?_|refine aa.aB ?_|refine aa.ak ?_|intro _|refine aa.aA ?_|refine aa.aJ ?_)
     all_goals first|exact aa.round [(25,I ((k+1:Nat):Int)),(24,I (n:Int)),(7,I (iR false 63+iR true (k+1))),(0,B true),(2,I am)] (n-(k+1)) (by omega) ⟨rfl,rfl,congrArg I (by rw[e1];omega),rfl,rfl,trivial⟩ ⟨k+1,rfl,hlt,rfl,rfl⟩
    ·obtain rfl:k=n:=by omega
     repeat' (first|refine aa.aF ?_|refine aa.bh true ?_|refine aa.ah ?_|refine aa.ae ?_|refine aa.aB ?_|refine aa.ak ?_|intro _|refine aa.aA ?_|refine aa.aJ ?_)
     all_goals first|exact⟨congrArg I (by simp;omega),rfl⟩|exact⟨rfl,rfl⟩
end Tc
namespace Tc
open Go Bt
attribute [local irreducible] aa ACalls
variable {gl:List (Nat×List D)}
def cd2(k:Int):Int:=gi1.getD k.toNat 0
def ln2(k:Int):Int:=gi2.getD k.toNat 0
theorem QM:∀k:_root_.Fin 102,(0≤ln2 k.val∧ln2 k.val≤12)∧0≤cd2 k.val∧cd2 k.val<2^(ln2 k.val).toNat:=by decide +kernel
theorem Gs(a:Int)(h:0≤a∧a≤101):(0≤ln2 a∧ln2 a≤12)∧0≤cd2 a∧cd2 a<2^(ln2 a).toNat:=by
 obtain⟨k,rfl⟩:=Int.eq_ofNat_of_zero_le h.1;exact QM ⟨k,by omega⟩
theorem Qh:gl1=gi1.map (.int .i64):=rfl
theorem Qd:gl2=gi2.map (.int .i64):=rfl
theorem F6:102*1≤gl1.length:=by unfold gl1;decide
theorem F3:102*1≤gl2.length:=by unfold gl2;decide
theorem F7(a:Int)(h:0≤a∧a≤101):(gl1.drop (a.toNat*1))[0]?=some (.int .i64 (cd2 a)):=by
 have hl:gi1.length=102:=rfl;rw[Qh,List.getElem?_drop,List.getElem?_map];simp[cd2,List.getD,hl,show a.toNat<102 by omega]
theorem F4(a:Int)(h:0≤a∧a≤101):(gl2.drop (a.toNat*1))[0]?=some (.int .i64 (ln2 a)):=by
 have hl:gi2.length=102:=rfl;rw[Qd,List.getElem?_drop,List.getElem?_map];simp[ln2,List.getD,hl,show a.toNat<102 by omega]
theorem Iy:∀la:Bool,∀ru:_root_.Fin 64,((rB la ru.val).length:Int)=dx la ru.val∧∀a:_root_.Fin 12,(a.val:Int)<dx la ru.val→(0≤dD la ru.val (a.val+1)∧dD la ru.val (a.val+1)≤101) ∧
  (rB la ru.val).getD a.val []=bU (cd2 (dD la ru.val (a.val+1))) (ln2 (dD la ru.val (a.val+1))).toNat (ln2 (dD la ru.val (a.val+1))).toNat∧(rB la ru.val).getD a.val []≠[]:=by decide +kernel
theorem Iw(la:Bool)(ru am:Int)(h:0≤ru∧ru≤63)(hm:dx la ru<am):kP la ru am=[]∧dD la ru am = -1:=by
 obtain⟨k1,_⟩:=Iy la ⟨ru.toNat,by omega⟩;simp only at k1;rw[show ((ru.toNat:Nat):Int)=ru by omega]at k1;unfold kP dD;rw[k1,if_pos hm,if_pos hm];exact⟨rfl,rfl⟩
theorem Iu(la:Bool)(ru am:Int)(h:0≤ru∧ru≤63)(ha:1≤am)(hm:¬dx la ru<am):(0≤dD la ru am∧dD la ru am≤101)∧kP la ru am=bU (cd2 (dD la ru am)) (ln2 (dD la ru am)).toNat (ln2 (dD la ru am)).toNat∧kP la ru am≠[]:=by
 have hb:=iZ la ru;obtain⟨k1,k2⟩:=Iy la ⟨ru.toNat,by omega⟩;have k3:=k2 ⟨(am-1).toNat,by omega⟩;simp only at k1 k3;rw[show ((ru.toNat:Nat):Int)=ru by omega]at k1 k3;rw[show (((am-1).toNat:Nat):Int)=am-1 by omega,show am-1+1=am by omega]at k3;have k4:=k3 (by omega);have e:kP la ru am=(rB la ru).getD (am-1).toNat []:=by unfold kP;rw[k1,if_neg hm]
 rw[e];exact k4
theorem Gj(b:Bool):ACalls (cxg gl) 250 [B b] [] (fun r H=>r=S (rQ b)∧H=[]):=by
 cases b;all_goals
  refine ACalls.en Tryz.func250 Tryz.ntmps250 ?_;repeat' (first|refine aa.aF ?_|refine aa.bh true ?_|refine aa.aB ?_|refine aa.ak ?_|intro _|refine aa.aA ?_)
  all_goals exact Tp
theorem Ms(n:Int):rQ (decide (n<0))=uw n:=by
 unfold rQ uw;by_cases h:n<0
 ·rw[decide_eq_true h,if_pos rfl,if_pos h]
 ·rw[decide_eq_false h,if_neg (by decide),if_neg h]
theorem Bo(n:Int):kI n=max n (-n):=by unfold kI;split<;>omega
theorem dg7:bU 3 7 7=[48,48,48,48,48,49,49]:=by decide +kernel
theorem tu(b:Bool):(rQ b).length=1:=by cases b<;>rfl
attribute [local irreducible] kr wD IC KT rB kP bU dD dx cd2 ln2
theorem A7(e:Ev):ACalls (cxg gtc) 216 [.d (evD e)] [] (fun r H=>r = .cH [S (cW e),B (evR e)]∧H=[]):=by
 obtain⟨la,ru,le⟩:=e;have rc:=qH (gl:=gtc) ⟨la,ru,le⟩;unfold cW;cases hR:evR ⟨la,ru,le⟩with
 |false =>
  rw[hR]at rc;rw[if_neg (by decide)];refine ACalls.en Tryz.func216 Tryz.ntmps216 ?_;repeat' (first|refine aa.aF ?_|refine aa.bh true ?_|refine aa.eP true ?_|refine aa.av (rc) ?_|refine aa.aR (rc) ?_|refine aa.aV ?_|refine aa.ah ?_|refine aa.ae ?_|refine aa.aB ?_|refine aa.ak ?_|refine aa.aM ?_|intro _|refine aa.aA ?_)
  all_goals exact Tp
 | true =>
  rw[hR]at rc;have hb:(0≤ru∧ru≤63)∧le≠0 ∧ -127≤le∧le≤127:=of_decide_eq_true hR;have ab:=Bp hb.2;rw[if_pos rfl];have pl:=Fy (gl:=gtc) la ru (kI le) hb.1 ab;rw[Bo]at pl ab;simp only[Bo];have hsl:=sF le;have d1:=Gj (gl:=gtc) (decide (le<0));rw[Ms]at d1;by_cases hm:dx la ru<max le (-le)
  ·obtain⟨t1,t2⟩:=Iw la ru (max le (-le)) hb.1 hm;rw[t1,if_neg (by simp)];rw[t2]at pl;have o7:=Aj (gl:=gtc) 3 7 (by decide) (by decide);rw[dg7]at o7;have o6:=Aj (gl:=gtc) ru 6 (by decide) (by omega);have o8:=Aj (gl:=gtc) ((le+256)%256) 8 (by decide) (by omega);rw[show (le+256)%256=(if le<0 then 256+le else le) by split<;>omega]at o8;have e8:(le+256)%256=(if le<0 then 256+le else le):=by split<;>omega
   have d2:=Gj (gl:=gtc) la;have l6:=bV ru 6 6;have l8:=bV (if le<0 then 256+le else le) 8 8;have l1:=tu la;rw[←e8]at o8 l8 ⊢;refine ACalls.en Tryz.func216 Tryz.ntmps216 ?_;repeat' (first|refine aa.aF ?_|((first|apply aa.q true|apply aa.qq true);rfl;rfl;rfl;rfl;first|exact True.intro|omega|(simp only[tn,Int.reduceToNat];omega)|(simp only[List.length_append,List.length_cons,List.length_nil,l6,l8,l1];omega))|refine aa.av (rc) ?_|refine aa.aR (rc) ?_|refine aa.av (pl) ?_|refine aa.aR (pl) ?_|refine aa.av (o7) ?_|refine aa.aR (o7) ?_|refine aa.av (o6) ?_|refine aa.aR (o6) ?_|refine aa.av (o8) ?_|refine aa.aR (o8) ?_|refine aa.av (d2) ?_|refine aa.aR (d2) ?_|refine aa.aV ?_|refine aa.ah ?_|refine aa.ae ?_|refine aa.aB ?_|refine aa.ak ?_|refine aa.aM ?_|intro _|refine aa.aA ?_)
   all_goals exact Tn
  ·obtain⟨t1,t2,t3⟩:=Iu la ru (max le (-le)) hb.1 ab.1 hm;rw[if_pos t3,t2];obtain⟨c1,c2⟩:=Gs _ t1;have g1:=F7 _ t1;have g2:=F4 _ t1;have o1:=Ai (gl:=gtc) _ _ ⟨c1.1,by omega⟩ c2;have lo:=bV (cd2 (dD la ru (max le (-le)))) (ln2 (dD la ru (max le (-le)))).toNat (ln2 (dD la ru (max le (-le)))).toNat;have hl1:=F6;have hl2:=F3;generalize dD la ru (max le (-le))=pc at *;refine ACalls.en Tryz.func216 Tryz.ntmps216 ?_;repeat' (first|refine aa.aF ?_|((first|apply aa.q true|apply aa.qq true);rfl;rfl;rfl;rfl;first|exact True.intro|omega|(simp only[tn,Int.reduceToNat];omega)|(exact⟨by omega,hl1⟩)|(exact⟨by omega,hl2⟩)|(simp only[List.length_append,List.length_cons,List.length_nil,lo,hsl];omega))|refine aa.av (rc) ?_|refine aa.aR (rc) ?_|refine aa.av (pl) ?_|refine aa.aR (pl) ?_|refine aa.av (o1) ?_|refine aa.aR (o1) ?_|refine aa.av (d1) ?_|refine aa.aR (d1) ?_|refine aa.aV ?_|refine aa.ah ?_|refine aa.ae ?_|refine aa.aB ?_|refine aa.ak ?_|refine aa.aM ?_|(apply aa.wX;(iterate 7 rfl);exact g1)|(apply aa.wX;(iterate 7 rfl);exact g2)|intro _|refine aa.aA ?_)
   all_goals exact Tn
end Tc
end Go.Proofs.YtbpednchkndocaaGreatDoor.Av
