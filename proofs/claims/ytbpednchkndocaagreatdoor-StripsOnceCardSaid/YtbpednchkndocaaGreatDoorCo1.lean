/- Numbers that wrap; the rows of steps. -/
import Derived.Test.YtbpednchkndocaaGreatDoorPd
import Derived.Test.YtbpednchkndocaaGreatDoorPn
import Derived.Test.YtbpednchkndocaaGreatDoorPl
set_option linter.unusedVariables false
set_option linter.unusedSimpArgs false
set_option maxRecDepth 100000
set_option maxHeartbeats 64000000
namespace Go.Proofs.YtbpednchkndocaaGreatDoor.Av
namespace Co
open Go Bt
attribute [local irreducible] aa ACalls
variable {gl:List (Nat×List D)}
def bH(n:Int):Int:=(n+32)%64-32
theorem Iq(n:Int):n.tmod 64=if 0≤n then n%64 else -((-n)%64):=by
 split
 ·rename_i h;exact Int.tmod_eq_emod_of_nonneg h
 ·rename_i h;have:=Int.neg_tmod (-n) 64;rw[Int.neg_neg]at this;rw[this,Int.tmod_eq_emod_of_nonneg (by omega)]
theorem GJ(n:Int): -63≤n.tmod 64∧n.tmod 64≤63:=by rw[Iq];split<;>omega
theorem iA(n:Int): -32≤bH n∧bH n≤31:=by unfold bH;omega
theorem lY(n:Int)(h : -9223372036854775808≤n∧n≤9223372036854775807):ACalls (cxg gl) 154 [I n] [] (fun r H=>r=I (bH n)∧H=[]):=by
 have hb:=GJ n;have e:=Iq n;refine ACalls.en Tryz.func154 Tryz.ntmps154 ?_;repeat' (first|refine aa.aF ?_|(apply aa.q false;rfl;rfl;rfl;rfl;first|exact True.intro|omega|(simp only[tn,Int.reduceToNat];omega)|decide)|intro _|(apply aa.cZ ;rfl)|refine aa.aA ?_)
 all_goals first|exact⟨congrArg I (by unfold bH;split at e<;>omega),rfl⟩
def lN(n:Int):List UInt8:=if n = -1 then [48,48] else if n = -2 then [48,49] else if n=1 then [49,48] else if n=2 then [49,49] else []
def sD(n:Int):Bool:=decide (n = -1∨n = -2∨n=1∨n=2)
theorem E8(n:Int):ACalls (cxg gl) 152 [I n] [] (fun r H=>r = .cH [S (lN n),B (sD n)]∧H=[]):=by
 by_cases h:n = -1∨n = -2∨n=1∨n=2
 ·rcases h with rfl|rfl|rfl|rfl;all_goals
   refine ACalls.en Tryz.func152 Tryz.ntmps152 ?_;repeat' (first|refine aa.aF ?_|refine aa.bh true ?_|refine aa.ah ?_|refine aa.ae ?_|intro _|refine aa.aA ?_)
   all_goals exact Tp
 ·unfold lN sD;rw[if_neg (by omega),if_neg (by omega),if_neg (by omega),if_neg (by omega),decide_eq_false h];refine ACalls.en Tryz.func152 Tryz.ntmps152 ?_;repeat' (first|refine aa.aF ?_|refine aa.bh true ?_|refine aa.ah ?_|refine aa.ae ?_|intro _|refine aa.aA ?_)
  all_goals exact Tn
end Co
namespace Co
open Go Bt Tc Wr Bl
attribute [local irreducible] aa ACalls
variable {gl:List (Nat×List D)}
structure Cel where
 stuff:Int
 skip:Bool
 kind:Int
 step:Int
 mx:Int
 my:Int
 d0:Int
 d1:Int
 d2:Int
 d3:Int
 d4:Int
 d5:Int
 e0:List Ev
 e1:List Ev
 e2:List Ev
 e3:List Ev
 e4:List Ev
 e5:List Ev
abbrev evS(l:List Ev):D := .sl 3 (bS l)
abbrev In(n:Int):D := .int .i64 n
abbrev kU(c:Cel):D := .agg [In c.stuff, .bool c.skip,In c.kind,In c.step,In c.mx,In c.my,In c.d0,In c.d1,In c.d2,In c.d3,In c.d4,In c.d5,evS c.e0,evS c.e1,evS c.e2,evS c.e3,evS c.e4,evS c.e5]
def aL(k:Int):Bool:=decide (k=3∨k=4)
def dw(k:Int):Bool:=decide (k=1∨k=4)
theorem AC(k:Int):ACalls (cxg gl) 149 [I k] [] (fun r H=>r=B (aL k)∧H=[]):=by
 by_cases h:k=3∨k=4
 ·rw[show aL k=true from decide_eq_true h];rcases h with rfl|rfl;all_goals
   refine ACalls.en Tryz.func149 Tryz.ntmps149 ?_;repeat' (first|refine aa.aF ?_|refine aa.bh true ?_|refine aa.au ?_|refine aa.cf ?_|refine aa.bg ?_|refine aa.aC ?_|intro _|refine aa.aA ?_)
   all_goals exact Tp
 ·rw[show aL k=false from decide_eq_false h];refine ACalls.en Tryz.func149 Tryz.ntmps149 ?_;repeat' (first|refine aa.aF ?_|refine aa.bh true ?_|refine aa.au ?_|refine aa.cf ?_|refine aa.bg ?_|refine aa.aC ?_|intro _|refine aa.aA ?_)
  all_goals first|exact⟨rfl,rfl⟩|exact⟨congrArg B (by simp only[bF];omega),rfl⟩
theorem yC(k:Int):ACalls (cxg gl) 151 [I k] [] (fun r H=>r=B (dw k)∧H=[]):=by
 by_cases h:k=1∨k=4
 ·rw[show dw k=true from decide_eq_true h];rcases h with rfl|rfl;all_goals
   refine ACalls.en Tryz.func151 Tryz.ntmps151 ?_;repeat' (first|refine aa.aF ?_|refine aa.bh true ?_|refine aa.au ?_|refine aa.cf ?_|refine aa.bg ?_|refine aa.aC ?_|intro _|refine aa.aA ?_)
   all_goals exact Tp
 ·rw[show dw k=false from decide_eq_false h];refine ACalls.en Tryz.func151 Tryz.ntmps151 ?_;repeat' (first|refine aa.aF ?_|refine aa.bh true ?_|refine aa.au ?_|refine aa.cf ?_|refine aa.bg ?_|refine aa.aC ?_|intro _|refine aa.aA ?_)
  all_goals first|exact⟨rfl,rfl⟩|exact⟨congrArg B (by simp only[bF];omega),rfl⟩
def Ct(l:List Ev):Bool:=decide (((bS l).length:Int)=0)
def vC(c:Cel):Bool:=(decide (c.kind=0)&&decide (c.step=0)&&decide ([c.mx,c.my]=[0,0])&&decide ([c.d0,c.d1,c.d2,c.d3,c.d4,c.d5]=[0,0,0,0,0,0]))&&Ct c.e0&&Ct c.e1&&Ct c.e2&&Ct c.e3&&Ct c.e4&&Ct c.e5
attribute [local irreducible] bS
theorem QT(c:Cel):ACalls (cxg gl) 207 [.d (kU c)] [] (fun r H=>r=B (vC c)∧H=[]):=by
 obtain⟨st,sk,ki,sp,mx,my,d0,d1,d2,d3,d4,d5,e0,e1,e2,e3,e4,e5⟩:=c;unfold vC Ct;refine ACalls.en Tryz.func207 Tryz.ntmps207 ?_;repeat' (first|refine aa.aF ?_|(apply aa.q true;rfl;rfl;rfl;rfl;first|exact True.intro|omega|(simp only[tn,Int.reduceToNat];omega)|(exact⟨by omega,Nat.le_of_ble_eq_true rfl⟩))|refine aa.bC ?_|refine aa.ah ?_|refine aa.ae ?_|refine aa.aM ?_|refine aa.bG ?_|refine aa.au ?_|refine aa.aC ?_|refine aa.mr ?_|apply aa.di|apply aa.lpU|intro _|(apply aa.gD;rfl;rfl;rfl)|refine aa.aA ?_)
 all_goals first|exact⟨congrArg B (by simp_all),rfl⟩
def kW(c:Cel):Bool:=if aL c.kind=true then decide ([c.mx,c.my]=[0,0]) else decide (bH c.mx=c.mx)&&decide (bH c.my=c.my)
def I64(n:Int):Prop := -9223372036854775808≤n∧n≤9223372036854775807
theorem Ik(c:Cel)(hx:I64 c.mx)(hy:I64 c.my):ACalls (cxg gl) 208 [.d (kU c)] [] (fun r H=>r=B (kW c)∧H=[]):=by
 obtain⟨st,sk,ki,sp,mx,my,d0,d1,d2,d3,d4,d5,e0,e1,e2,e3,e4,e5⟩:=c;have ic:=AC (gl:=gl) ki;have w1:=lY (gl:=gl) mx hx;have w2:=lY (gl:=gl) my hy;unfold kW;simp only;cases hI:aL ki with
 |true =>
  rw[hI]at ic;refine ACalls.en Tryz.func208 Tryz.ntmps208 ?_;repeat' (first|refine aa.aF ?_|refine aa.bh true ?_|refine aa.eP true ?_|refine aa.av (ic) ?_|refine aa.aR (ic) ?_|refine aa.aV ?_|refine aa.aB ?_|refine aa.ak ?_|refine aa.aM ?_|refine aa.bG ?_|refine aa.bw ?_|refine aa.iG ?_|refine aa.mr ?_|intro _|(apply aa.qgD;rfl;rfl;rfl)|refine aa.aA ?_)
  all_goals exact Tp
 |false =>
  rw[hI]at ic;refine ACalls.en Tryz.func208 Tryz.ntmps208 ?_;repeat' (first|refine aa.aF ?_|refine aa.bh true ?_|refine aa.eP true ?_|refine aa.av (ic) ?_|refine aa.aR (ic) ?_|refine aa.av (w1) ?_|refine aa.aR (w1) ?_|refine aa.av (w2) ?_|refine aa.aR (w2) ?_|refine aa.aV ?_|refine aa.aB ?_|refine aa.ak ?_|refine aa.aM ?_|refine aa.bG ?_|refine aa.bw ?_|refine aa.iG ?_|intro _|(apply aa.qgD;rfl;rfl;rfl)|refine aa.aA ?_)
  all_goals first|exact⟨congrArg B (by simp_all),rfl⟩
def kF(l:List Ev):Int:=if 0<((bS l).length:Int) then 1 else 0
def cN(c:Cel):Int:=32*kF c.e0+16*kF c.e1+8*kF c.e2+4*kF c.e3+2*kF c.e4+kF c.e5
theorem iE(l:List Ev):0≤kF l∧kF l≤1:=by unfold kF;split<;>omega
theorem Ow{l:List Ev}(h:0<((bS l).length:Int)):kF l=1:=by unfold kF;rw[if_pos h]
theorem Ox{l:List Ev}(h:¬0<((bS l).length:Int)):kF l=0:=by unfold kF;rw[if_neg h]
end Co
namespace Mb
open Go Bt
attribute [local irreducible] aa ACalls
noncomputable abbrev gsp:List (Nat×List D):=[(3,gl3)]
def gm(s:List UInt8)(l:List (List UInt8)):Prop:=ACalls (cxg gsp) 244 [S s] [] (fun r H=>r = .own 1 (kr l) 0∧H=[.front 9 1 l.length])
def txI:List (List UInt8):=[[49,32,48,48,49,49,32,48,48,49,48,32,48,48,48,49,48,49],[48,49,49,32,48,48,48,48,49,49,49,32,48,48,48,48,49,49,48,32,48,48,48,48,48,48,49,48,49],[48,49,48,32,48,48,48,48,49,48,49,32,48,48,48,48,49,48,48,32,48,48,48,48,48,49,48,49],[48,48,48,49,49,32,48,48,48,48,48,49,48,48,32,48,48,48,48,48,48,49,49,32,48,48,48,48,48,49,49],[48,48,48,49,48,48,32,48,48,48,48,48,48,49,48,48,32,48,48,48,48,48,48,48,49,49,32,48,48,48,48,48,48,48,49,48],[48,48,48,48,48,48,48,48,49]]
def txJ:List (List UInt8):=[[],[],[],[49,32,48,48,49,32,48,49,48,32,48,49,49],[48,48,48,49,32,48,48,48,48,48,49,32,48,48,48,48,49,48,32,48,48,48,48,49,49],[48,48,48,48,48,48,48,48,49]]
def wdI:List (List (List UInt8)):=[[[49],[48,48,49,49],[48,48,49,48],[48,48,48,49,48,49]],[[48,49,49],[48,48,48,48,49,49,49],[48,48,48,48,49,49,48],[48,48,48,48,48,48,49,48,49]],[[48,49,48],[48,48,48,48,49,48,49],[48,48,48,48,49,48,48],[48,48,48,48,48,49,48,49]],[[48,48,48,49,49],[48,48,48,48,48,49,48,48],[48,48,48,48,48,48,49,49],[48,48,48,48,48,49,49]],[[48,48,48,49,48,48],[48,48,48,48,48,48,49,48,48],[48,48,48,48,48,48,48,49,49],[48,48,48,48,48,48,48,49,48]],[[48,48,48,48,48,48,48,48,49]]]
def wdJ:List (List (List UInt8)):=[[],[],[],[[49],[48,48,49],[48,49,48],[48,49,49]],[[48,48,48,49],[48,48,48,48,48,49],[48,48,48,48,49,48],[48,48,48,48,49,49]],[[48,48,48,48,48,48,48,48,49]]]
theorem Eu:gm [49,32,48,48,49,49,32,48,48,49,48,32,48,48,48,49,48,49] [[49],[48,48,49,49],[48,48,49,48],[48,48,48,49,48,49]]∧gm [48,49,49,32,48,48,48,48,49,49,49,32,48,48,48,48,49,49,48,32,48,48,48,48,48,48,49,48,49] [[48,49,49],[48,48,48,48,49,49,49],[48,48,48,48,49,49,48],[48,48,48,48,48,48,49,48,49]]∧gm [48,49,48,32,48,48,48,48,49,48,49,32,48,48,48,48,49,48,48,32,48,48,48,48,48,49,48,49] [[48,49,48],[48,48,48,48,49,48,49],[48,48,48,48,49,48,48],[48,48,48,48,48,49,48,49]]∧gm [48,48,48,49,49,32,48,48,48,48,48,49,48,48,32,48,48,48,48,48,48,49,49,32,48,48,48,48,48,49,49] [[48,48,48,49,49],[48,48,48,48,48,49,48,48],[48,48,48,48,48,48,49,49],[48,48,48,48,48,49,49]]∧gm [48,48,48,49,48,48,32,48,48,48,48,48,48,49,48,48,32,48,48,48,48,48,48,48,49,49,32,48,48,48,48,48,48,48,49,48] [[48,48,48,49,48,48],[48,48,48,48,48,48,49,48,48],[48,48,48,48,48,48,48,49,49],[48,48,48,48,48,48,48,49,48]]∧gm [48,48,48,48,48,48,48,48,49] [[48,48,48,48,48,48,48,48,49]]∧gm [] []∧gm [49,32,48,48,49,32,48,49,48,32,48,49,49] [[49],[48,48,49],[48,49,48],[48,49,49]]∧gm [48,48,48,49,32,48,48,48,48,48,49,32,48,48,48,48,49,48,32,48,48,48,48,49,49] [[48,48,48,49],[48,48,48,48,48,49],[48,48,48,48,49,48],[48,48,48,48,49,49]]:=by
 refine⟨?_,?_,?_,?_,?_,?_,?_,?_,?_⟩;all_goals
  unfold gm kr;refine ACalls.en Tryz.func244 Tryz.ntmps244 ?_;repeat' (first|refine aa.aF ?_|(apply aa.q true;rfl;rfl;rfl;rfl;first|exact True.intro|omega|(simp only[tn,Int.reduceToNat];omega)|(decide))|refine aa.bC ?_|refine aa.ah ?_|refine aa.ae ?_|refine aa.aB ?_|refine aa.ak ?_|refine aa.au ?_|refine aa.aC ?_|(apply aa.RV;(iterate 9 rfl);(first|decide|exact Nat.le_of_ble_eq_true rfl|(dsimp only;omega)|decide +kernel|(decide));simp only[Int.reduceNeg,Int.reduceAdd,Int.reduceSub,Int.reduceMul,Int.reduceMod,Int.reduceToNat,List.replicate_succ,List.replicate_zero,List.length_nil,List.length_cons,Nat.reduceAdd,List.nil_append,List.cons_append])|(apply aa.wN;(iterate 11 rfl);(first|rfl|(simp only[List.length_append,List.length_map,List.length_set,List.length_replicate,List.length_cons,List.length_nil];omega)|(decide));rfl;(first|decide|exact Nat.le_of_ble_eq_true rfl|(dsimp only;omega)|decide +kernel|(decide));simp only[List.set_cons_zero,List.set_cons_succ])|(apply aa.opx;((apply mh;(iterate 8 rfl);(first|rfl|(simp only[List.length_append,List.length_map,List.length_set,List.length_replicate,List.length_cons,List.length_nil];omega)|(decide));(first|decide|exact Nat.le_of_ble_eq_true rfl|(dsimp only;omega)|decide +kernel|(decide))));rfl;rfl;rfl)|(apply aa.AQ 2;rfl;rfl;(first|rfl|(simp only[List.length_append,List.length_map,List.length_set,List.length_replicate,List.length_cons,List.length_nil];omega)|(decide));simp only[List.set_cons_zero,List.set_cons_succ])|(apply aa.opx;(first|(apply D7;rfl;rfl;(first|decide|exact Nat.le_of_ble_eq_true rfl|(dsimp only;omega)|decide +kernel|(decide)))|(apply D8;rfl;rfl;rfl;(first|decide|exact Nat.le_of_ble_eq_true rfl|(dsimp only;omega)|decide +kernel|(decide))));rfl;rfl;rfl)|apply aa.di|apply aa.lpU|intro _)
  (apply aa.BN 1;rfl;rfl;rfl;rfl;rfl)
  exact⟨rfl,rfl⟩
end Mb
namespace Mb
open Go Bt
attribute [local irreducible] aa ACalls
variable {gl:List (Nat×List D)}
def oL(b:Bool)(k:Int):List UInt8:=if k<0∨5<k then [] else (if b=true then txI else txJ).getD k.toNat []
def iy(b:Bool)(k:Int):List (List UInt8):=if k<0∨5<k then [] else (if b=true then wdI else wdJ).getD k.toNat []
def eD(b:Bool)(k c:Int):List UInt8:=if 0≤c∧c<(iy b k).length then (iy b k).getD c.toNat [] else []
def lu(b:Bool)(k c:Int):Bool:=decide (0≤c∧c<((iy b k).length:Int))
theorem kinds(k:Int):k=0∨k=1∨k=2∨k=3∨k=4∨k=5∨(k<0∨5<k):=by omega
theorem CF(b:Bool)(k:Int):gm (oL b k) (iy b k):=by
 obtain⟨h0,h1,h2,h3,h4,h5,h6,h7,h8⟩:=Eu;rcases kinds k with rfl|rfl|rfl|rfl|rfl|rfl|h;all_goals cases b
 any_goals (first|exact h0|exact h1|exact h2|exact h3|exact h4|exact h5|exact h6|exact h7|exact h8)
 all_goals
  unfold oL iy;rw[if_pos h,if_pos h];exact h6
theorem JX(k:Int)(h:k≠3)(h4:k≠4)(h5:k≠5):oL false k=[]:=by
 rcases kinds k with rfl|rfl|rfl|rfl|rfl|rfl|h
 any_goals rfl
 any_goals omega
 unfold oL;rw[if_pos h]
theorem JW(b:Bool)(k:Int)(h:k<0∨5<k):oL b k=[]:=by unfold oL;rw[if_pos h]
theorem Fh(b:Bool)(k:Int):ACalls (cxg gl) 245 [B b,I k] [] (fun r H=>r=S (oL b k)∧H=[]):=by
 cases b
 ·by_cases h:k=3∨k=4∨k=5
  ·rcases h with rfl|rfl|rfl;all_goals
    refine ACalls.en Tryz.func245 Tryz.ntmps245 ?_;repeat' (first|refine aa.aF ?_|refine aa.bh true ?_|refine aa.ah ?_|refine aa.ae ?_|refine aa.aB ?_|refine aa.ak ?_|intro _|refine aa.aA ?_)
    all_goals exact Tp
  ·rw[JX k (by omega) (by omega) (by omega)];refine ACalls.en Tryz.func245 Tryz.ntmps245 ?_;repeat' (first|refine aa.aF ?_|refine aa.bh true ?_|refine aa.ah ?_|refine aa.ae ?_|refine aa.aB ?_|refine aa.ak ?_|intro _|refine aa.aA ?_)
   all_goals exact Tp
 ·have h:k=0∨k=1∨k=2∨k=3∨k=4∨k=5∨((k<0∨5<k)∧oL true k=[]):=by
   rcases kinds k with h|h|h|h|h|h|h
   any_goals omega
   have:=JW true k h;exact .inr (.inr (.inr (.inr (.inr (.inr ⟨h,this⟩)))))
  rcases h with rfl|rfl|rfl|rfl|rfl|rfl|⟨h,e⟩
  any_goals rw[e]
  all_goals
   refine ACalls.en Tryz.func245 Tryz.ntmps245 ?_;repeat' (first|refine aa.aF ?_|refine aa.bh true ?_|refine aa.ah ?_|refine aa.ae ?_|refine aa.aB ?_|refine aa.ak ?_|intro _|refine aa.aA ?_)
   all_goals exact Tp
attribute [local irreducible] oL iy kr
theorem FN(b:Bool)(k c:Int):ACalls (cxg gsp) 210 [B b,I k,I c] [] (fun r H=>r = .cH [S (eD b k c),B (lu b k c)]∧H=[]):=by
 have f1:=CF b k;have r1:=Fh (gl:=gsp) b k;have hl:=G3 (iy b k);unfold gm at f1;unfold eD lu;by_cases h:0≤c∧c<((iy b k).length:Int)
 ·rw[if_pos h,decide_eq_true h];have g:=G5 (iy b k) c.toNat (by omega);refine ACalls.en Tryz.func210 Tryz.ntmps210 ?_;repeat' (first|refine aa.aF ?_|refine aa.q'e true ?_|refine aa.aj [] (f1) ?_|refine aa.av (r1) ?_|refine aa.ah ?_|refine aa.ae ?_|refine aa.aB ?_|refine aa.au ?_|refine aa.bg ?_|refine aa.aC ?_|(apply aa.jD;(iterate 7 rfl);exact g)|intro _|(apply aa.gD;rfl;rfl;rfl)|refine aa.aA ?_)
  all_goals exact Tn
 ·rw[if_neg h,decide_eq_false h];refine ACalls.en Tryz.func210 Tryz.ntmps210 ?_;repeat' (first|refine aa.aF ?_|refine aa.q'e true ?_|refine aa.aj [] (f1) ?_|refine aa.av (r1) ?_|refine aa.ah ?_|refine aa.ae ?_|refine aa.aB ?_|refine aa.au ?_|refine aa.bg ?_|refine aa.aC ?_|intro _|(apply aa.gD;rfl;rfl;rfl)|refine aa.aA ?_)
  all_goals exact Tn
end Mb
end Go.Proofs.YtbpednchkndocaaGreatDoor.Av
