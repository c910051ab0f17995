/- Numbers that wrap; the rows of steps. -/
import Derived.Test.YtbpednchkndocaaGreatDoorPd
import Derived.Test.YtbpednchkndocaaGreatDoorPn
import Derived.Test.YtbpednchkndocaaGreatDoorPl
set_option linter.unusedVariables false
set_option linter.unusedSimpArgs false
set_option maxRecDepth 100000
set_option maxHeartbeats 64000000
namespace Go.Proofs.YtbpednchkndocaaGreatDoor.Av
namespace Co
open Go Bt
attribute [local irreducible] aa ACalls
variable {gl:List (Nat×List D)}
def cW (n:Int):Int:=(n+32)%64 - 32
theorem Bd (n:Int):n.tmod 64=if 0≤n then n%64 else -((-n)%64):=by
 split
 ·rename_i h;exact Int.tmod_eq_emod_of_nonneg h
 ·rename_i h
  have:=Int.neg_tmod (-n) 64
  rw[Int.neg_neg]at this
  rw[this,Int.tmod_eq_emod_of_nonneg (by omega)]
theorem vY (n:Int) : -63≤n.tmod 64∧n.tmod 64≤63:=by rw[Bd];split<;>omega
theorem gY (n:Int) : -32≤cW n∧cW n≤31:=by unfold cW;omega
theorem A7 (n:Int) (h : -9223372036854775808≤n∧n≤9223372036854775807):ACalls (cxg gl) 154 [I n] [] (fun r H=>r=I (cW n)∧H=[]):=by
 have hb:=vY n
 have e:=Bd n
 refine ACalls.en Tryz.func154 Tryz.ntmps154 ?_
 repeat' (first|refine aa.aD ?_|(apply aa.q false;rfl;rfl;rfl;rfl;first|exact True.intro|omega|(simp only[tn,Int.reduceToNat];omega)|decide)|intro _|(apply aa.ed ;rfl)|refine aa.av ?_)
 all_goals first|exact⟨congrArg I (by unfold cW;split at e<;>omega),rfl⟩
theorem iQ (n:Int) (h : -9223372036854775808≤n∧n≤9223372036854775807):ACalls (cxg gl) 136 [I n] [] (fun r H=>r=I (cW n)∧H=[]):=by
 have hb:=vY n
 have e:=Bd n
 refine ACalls.en Tryz.func136 Tryz.ntmps136 ?_
 repeat' (first|refine aa.aD ?_|(apply aa.q false;rfl;rfl;rfl;rfl;first|exact True.intro|omega|(simp only[tn,Int.reduceToNat];omega)|decide)|intro _|(apply aa.ed ;rfl)|refine aa.av ?_)
 all_goals first|exact⟨congrArg I (by unfold cW;split at e<;>omega),rfl⟩
def wh (n:Int):List UInt8:=if n = -1 then [48,48] else if n = -2 then [48,49] else if n=1 then [49,48] else if n=2 then [49,49] else []
def xp (n:Int):Bool:=decide (n = -1∨n = -2∨n=1∨n=2)
end Co
end Go.Proofs.YtbpednchkndocaaGreatDoor.Av
namespace Go.Proofs.YtbpednchkndocaaGreatDoor.Av
namespace Co
open Go Bt Tc Wr Bl
attribute [local irreducible] aa ACalls
variable {gl:List (Nat×List D)}
structure Cel where
 stuff:Int
 skip:Bool
 kind:Int
 step:Int
 mx:Int
 my:Int
 d0:Int
 d1:Int
 d2:Int
 d3:Int
 d4:Int
 d5:Int
 e0:List Ev
 e1:List Ev
 e2:List Ev
 e3:List Ev
 e4:List Ev
 e5:List Ev
abbrev evS (l:List Ev):D := .sl 3 (cn l)
abbrev In (n:Int):D := .int .i64 n
abbrev gz (c:Cel):D := .agg [In c.stuff, .bool c.skip,In c.kind,In c.step,In c.mx,In c.my,In c.d0,In c.d1,In c.d2,In c.d3,In c.d4,In c.d5,evS c.e0,evS c.e1,evS c.e2,evS c.e3,evS c.e4,evS c.e5]
def bf (k:Int):Bool:=decide (k=3∨k=4)
def dP (k:Int):Bool:=decide (k=1∨k=4)
def El (l:List Ev):Bool:=decide (((cn l).length:Int)=0)
def Ky (c:Cel):Bool:=(decide (c.kind=0)&&decide (c.step=0)&&decide ([c.mx,c.my]=[0,0])&&decide ([c.d0,c.d1,c.d2,c.d3,c.d4,c.d5]=[0,0,0,0,0,0]))&&El c.e0&&El c.e1&&El c.e2&&El c.e3&&El c.e4&&El c.e5
attribute [local irreducible] cn
def xh (c:Cel):Bool:=if bf c.kind=true then decide ([c.mx,c.my]=[0,0]) else decide (cW c.mx=c.mx)&&decide (cW c.my=c.my)
def I64 (n:Int):Prop := -9223372036854775808≤n∧n≤9223372036854775807
def ku (l:List Ev):Int:=if 0<((cn l).length:Int) then 1 else 0
def fK (c:Cel):Int:=32*ku c.e0+16*ku c.e1+8*ku c.e2+4*ku c.e3+2*ku c.e4+ku c.e5
theorem mD (l:List Ev):0≤ku l∧ku l≤1:=by unfold ku;split<;>omega
theorem J4 {l:List Ev} (h:0<((cn l).length:Int)):ku l=1:=by unfold ku;rw[if_pos h]
theorem J5 {l:List Ev} (h:¬0<((cn l).length:Int)):ku l=0:=by unfold ku;rw[if_neg h]
end Co
end Go.Proofs.YtbpednchkndocaaGreatDoor.Av
namespace Go.Proofs.YtbpednchkndocaaGreatDoor.Av
namespace Mb
open Go Bt
attribute [local irreducible] aa ACalls
noncomputable abbrev gsp:List (Nat×List D):=[(3,gl3)]
def fg (s:List UInt8) (l:List (List UInt8)):Prop:=ACalls (cxg gsp) 244 [S s] [] (fun r H=>r = .own 1 (bE l) 0∧H=[.front 9 1 l.length])
def txI:List (List UInt8):=[[49,32,48,48,49,49,32,48,48,49,48,32,48,48,48,49,48,49],[48,49,49,32,48,48,48,48,49,49,49,32,48,48,48,48,49,49,48,32,48,48,48,48,48,48,49,48,49],[48,49,48,32,48,48,48,48,49,48,49,32,48,48,48,48,49,48,48,32,48,48,48,48,48,49,48,49],[48,48,48,49,49,32,48,48,48,48,48,49,48,48,32,48,48,48,48,48,48,49,49,32,48,48,48,48,48,49,49],[48,48,48,49,48,48,32,48,48,48,48,48,48,49,48,48,32,48,48,48,48,48,48,48,49,49,32,48,48,48,48,48,48,48,49,48],[48,48,48,48,48,48,48,48,49]]
def txJ:List (List UInt8):=[[],[],[],[49,32,48,48,49,32,48,49,48,32,48,49,49],[48,48,48,49,32,48,48,48,48,48,49,32,48,48,48,48,49,48,32,48,48,48,48,49,49],[48,48,48,48,48,48,48,48,49]]
def wdI:List (List (List UInt8)):=[[[49],[48,48,49,49],[48,48,49,48],[48,48,48,49,48,49]],[[48,49,49],[48,48,48,48,49,49,49],[48,48,48,48,49,49,48],[48,48,48,48,48,48,49,48,49]],[[48,49,48],[48,48,48,48,49,48,49],[48,48,48,48,49,48,48],[48,48,48,48,48,49,48,49]],[[48,48,48,49,49],[48,48,48,48,48,49,48,48],[48,48,48,48,48,48,49,49],[48,48,48,48,48,49,49]],[[48,48,48,49,48,48],[48,48,48,48,48,48,49,48,48],[48,48,48,48,48,48,48,49,49],[48,48,48,48,48,48,48,49,48]],[[48,48,48,48,48,48,48,48,49]]]
def wdJ:List (List (List UInt8)):=[[],[],[],[[49],[48,48,49],[48,49,48],[48,49,49]],[[48,48,48,49],[48,48,48,48,48,49],[48,48,48,48,49,48],[48,48,48,48,49,49]],[[48,48,48,48,48,48,48,48,49]]]
theorem BV:fg [49,32,48,48,49,49,32,48,48,49,48,32,48,48,48,49,48,49] [[49],[48,48,49,49],[48,48,49,48],[48,48,48,49,48,49]]∧fg [48,49,49,32,48,48,48,48,49,49,49,32,48,48,48,48,49,49,48,32,48,48,48,48,48,48,49,48,49] [[48,49,49],[48,48,48,48,49,49,49],[48,48,48,48,49,49,48],[48,48,48,48,48,48,49,48,49]]∧fg [48,49,48,32,48,48,48,48,49,48,49,32,48,48,48,48,49,48,48,32,48,48,48,48,48,49,48,49] [[48,49,48],[48,48,48,48,49,48,49],[48,48,48,48,49,48,48],[48,48,48,48,48,49,48,49]]∧fg [48,48,48,49,49,32,48,48,48,48,48,49,48,48,32,48,48,48,48,48,48,49,49,32,48,48,48,48,48,49,49] [[48,48,48,49,49],[48,48,48,48,48,49,48,48],[48,48,48,48,48,48,49,49],[48,48,48,48,48,49,49]]∧fg [48,48,48,49,48,48,32,48,48,48,48,48,48,49,48,48,32,48,48,48,48,48,48,48,49,49,32,48,48,48,48,48,48,48,49,48] [[48,48,48,49,48,48],[48,48,48,48,48,48,49,48,48],[48,48,48,48,48,48,48,49,49],[48,48,48,48,48,48,48,49,48]]∧fg [48,48,48,48,48,48,48,48,49] [[48,48,48,48,48,48,48,48,49]]∧fg [] []∧fg [49,32,48,48,49,32,48,49,48,32,48,49,49] [[49],[48,48,49],[48,49,48],[48,49,49]]∧fg [48,48,48,49,32,48,48,48,48,48,49,32,48,48,48,48,49,48,32,48,48,48,48,49,49] [[48,48,48,49],[48,48,48,48,48,49],[48,48,48,48,49,48],[48,48,48,48,49,49]]:=by
 refine⟨?_,?_,?_,?_,?_,?_,?_,?_,?_⟩
 all_goals
  unfold fg bE
  refine ACalls.en Tryz.func244 Tryz.ntmps244 ?_
  repeat' (first|refine aa.aD ?_|(apply aa.q true;rfl;rfl;rfl;rfl;first|exact True.intro|omega|(simp only[tn,Int.reduceToNat];omega)|(decide))|refine aa.aW ?_|refine aa.ae ?_|refine aa.af ?_|refine aa.au ?_|refine aa.ai ?_|refine aa.aj ?_|refine aa.aB ?_|(apply aa.Ns;(iterate 9 rfl);(first|decide|exact Nat.le_of_ble_eq_true rfl|(dsimp only;omega)|decide +kernel|(decide));simp only[Int.reduceNeg,Int.reduceAdd,Int.reduceSub,Int.reduceMul,Int.reduceMod,Int.reduceToNat,List.replicate_succ,List.replicate_zero,List.length_nil,List.length_cons,Nat.reduceAdd,List.nil_append,List.cons_append])|(apply aa.pE;(iterate 11 rfl);(first|rfl|(simp only[List.length_append,List.length_map,List.length_set,List.length_replicate,List.length_cons,List.length_nil];omega)|(decide));rfl;(first|decide|exact Nat.le_of_ble_eq_true rfl|(dsimp only;omega)|decide +kernel|(decide));simp only[List.set_cons_zero,List.set_cons_succ])|(apply aa.opx;((apply fu;(iterate 8 rfl);(first|rfl|(simp only[List.length_append,List.length_map,List.length_set,List.length_replicate,List.length_cons,List.length_nil];omega)|(decide));(first|decide|exact Nat.le_of_ble_eq_true rfl|(dsimp only;omega)|decide +kernel|(decide))));rfl;rfl;rfl)|(apply aa.oJ 2;rfl;rfl;(first|rfl|(simp only[List.length_append,List.length_map,List.length_set,List.length_replicate,List.length_cons,List.length_nil];omega)|(decide));simp only[List.set_cons_zero,List.set_cons_succ])|(apply aa.opx;(first|(apply Bv;rfl;rfl;(first|decide|exact Nat.le_of_ble_eq_true rfl|(dsimp only;omega)|decide +kernel|(decide)))|(apply Bw;rfl;rfl;rfl;(first|decide|exact Nat.le_of_ble_eq_true rfl|(dsimp only;omega)|decide +kernel|(decide))));rfl;rfl;rfl)|apply aa.cK|apply aa.lpU|intro _)
  (apply aa.xB 1;rfl;rfl;rfl;rfl;rfl)
  exact⟨rfl,rfl⟩
end Mb
end Go.Proofs.YtbpednchkndocaaGreatDoor.Av
namespace Go.Proofs.YtbpednchkndocaaGreatDoor.Av
namespace Mb
open Go Bt
attribute [local irreducible] aa ACalls
variable {gl:List (Nat×List D)}
def mQ (b:Bool) (k:Int):List UInt8:=if k<0∨5<k then [] else (if b=true then txI else txJ).getD k.toNat []
def gq (b:Bool) (k:Int):List (List UInt8):=if k<0∨5<k then [] else (if b=true then wdI else wdJ).getD k.toNat []
def fT (b:Bool) (k c:Int):List UInt8:=if 0≤c∧c<(gq b k).length then (gq b k).getD c.toNat [] else []
def l9 (b:Bool) (k c:Int):Bool:=decide (0≤c∧c<((gq b k).length:Int))
theorem kinds (k:Int):k=0∨k=1∨k=2∨k=3∨k=4∨k=5∨(k<0∨5<k):=by omega
theorem Aa (b:Bool) (k:Int):fg (mQ b k) (gq b k):=by
 obtain⟨h0,h1,h2,h3,h4,h5,h6,h7,h8⟩:=BV
 rcases kinds k with rfl|rfl|rfl|rfl|rfl|rfl|h
 all_goals cases b
 any_goals (first|exact h0|exact h1|exact h2|exact h3|exact h4|exact h5|exact h6|exact h7|exact h8)
 all_goals
  unfold mQ gq
  rw[if_pos h,if_pos h]
  exact h6
theorem GF (k:Int) (h:k≠3) (h4:k≠4) (h5:k≠5):mQ false k=[]:=by
 rcases kinds k with rfl|rfl|rfl|rfl|rfl|rfl|h
 any_goals rfl
 any_goals omega
 unfold mQ;rw[if_pos h]
theorem GD (b:Bool) (k:Int) (h:k<0∨5<k):mQ b k=[]:=by unfold mQ;rw[if_pos h]
theorem Cx (b:Bool) (k:Int):ACalls (cxg gl) 245 [B b,I k] [] (fun r H=>r=S (mQ b k)∧H=[]):=by
 cases b
 ·by_cases h:k=3∨k=4∨k=5
  ·rcases h with rfl|rfl|rfl
   all_goals
    refine ACalls.en Tryz.func245 Tryz.ntmps245 ?_
    repeat' (first|refine aa.aD ?_|refine aa.bh true ?_|refine aa.ae ?_|refine aa.af ?_|refine aa.au ?_|refine aa.ai ?_|intro _|refine aa.av ?_)
    all_goals first|exact⟨rfl,rfl⟩
  ·rw[GF k (by omega) (by omega) (by omega)]
   refine ACalls.en Tryz.func245 Tryz.ntmps245 ?_
   repeat' (first|refine aa.aD ?_|refine aa.bh true ?_|refine aa.ae ?_|refine aa.af ?_|refine aa.au ?_|refine aa.ai ?_|intro _|refine aa.av ?_)
   all_goals first|exact⟨rfl,rfl⟩
 ·have h:k=0∨k=1∨k=2∨k=3∨k=4∨k=5∨((k<0∨5<k)∧mQ true k=[]):=by
   rcases kinds k with h|h|h|h|h|h|h
   any_goals omega
   have:=GD true k h
   exact .inr (.inr (.inr (.inr (.inr (.inr ⟨h,this⟩)))))
  rcases h with rfl|rfl|rfl|rfl|rfl|rfl|⟨h,e⟩
  any_goals rw[e]
  all_goals
   refine ACalls.en Tryz.func245 Tryz.ntmps245 ?_
   repeat' (first|refine aa.aD ?_|refine aa.bh true ?_|refine aa.ae ?_|refine aa.af ?_|refine aa.au ?_|refine aa.ai ?_|intro _|refine aa.av ?_)
   all_goals first|exact⟨rfl,rfl⟩
attribute [local irreducible] mQ gq bE
theorem CX (b:Bool) (k c:Int):ACalls (cxg gsp) 210 [B b,I k,I c] [] (fun r H=>r = .bK [S (fT b k c),B (l9 b k c)]∧H=[]):=by
 have f1:=Aa b k
 have r1:=Cx (gl:=gsp) b k
 have hl:=gK (gq b k)
 unfold fg at f1
 unfold fT l9
 by_cases h:0≤c∧c<((gq b k).length:Int)
 ·rw[if_pos h,decide_eq_true h]
  have g:=kN (gq b k) c.toNat (by omega)
  refine ACalls.en Tryz.func210 Tryz.ntmps210 ?_
  repeat' (first|refine aa.aD ?_|(apply aa.q true;rfl;rfl;rfl;rfl;first|exact True.intro|omega|(simp only[tn,Int.reduceToNat];omega)|(rw[hl];omega))|refine aa.az [] ( f1) ?_|refine aa.ah (r1) ?_|refine aa.ae ?_|refine aa.af ?_|refine aa.au ?_|refine aa.aj ?_|refine aa.bq ?_|refine aa.aB ?_|(apply aa.gQ;(iterate 7 rfl);exact g)|intro _|(apply aa.gD;rfl;rfl;rfl)|refine aa.av ?_)
  all_goals first|exact⟨rfl,rfl⟩|omega
 ·rw[if_neg h,decide_eq_false h]
  refine ACalls.en Tryz.func210 Tryz.ntmps210 ?_
  repeat' (first|refine aa.aD ?_|(apply aa.q true;rfl;rfl;rfl;rfl;first|exact True.intro|omega|(simp only[tn,Int.reduceToNat];omega)|(rw[hl];omega))|refine aa.az [] ( f1) ?_|refine aa.ah (r1) ?_|refine aa.ae ?_|refine aa.af ?_|refine aa.au ?_|refine aa.aj ?_|refine aa.bq ?_|refine aa.aB ?_|intro _|(apply aa.gD;rfl;rfl;rfl)|refine aa.av ?_)
  all_goals first|exact⟨rfl,rfl⟩|omega
end Mb
end Go.Proofs.YtbpednchkndocaaGreatDoor.Av
