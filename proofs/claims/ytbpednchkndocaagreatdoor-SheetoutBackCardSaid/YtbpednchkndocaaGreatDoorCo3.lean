/- Cells: which blocks are coded; whether a cell may be. -/
import Derived.Test.YtbpednchkndocaaGreatDoorCo1
import Derived.Test.YtbpednchkndocaaGreatDoorPs1
set_option linter.unusedVariables false
set_option linter.unusedSimpArgs false
set_option maxRecDepth 100000
set_option maxHeartbeats 64000000
namespace Go.Proofs.YtbpednchkndocaaGreatDoor.Av
namespace Co
open Go Bt Tc Wr Bl
attribute [local irreducible] aa ACalls
variable {gl:List (Nat×List D)}
attribute [local irreducible] bS kF
theorem Gp(c:Cel):ACalls (cxg gl) 150 [.d (kU c)] [] (fun r H=>r=I (cN c)∧H=[]):=by
 obtain⟨st,sk,ki,sp,mx,my,d0,d1,d2,d3,d4,d5,e0,e1,e2,e3,e4,e5⟩:=c;unfold cN;refine ACalls.en Tryz.func150 Tryz.ntmps150 ?_;repeat' (first|refine aa.aF ?_|(apply aa.q true;rfl;rfl;rfl;rfl;first|exact True.intro|omega|(simp only[tn,Int.reduceToNat];omega)|(exact⟨by omega,Nat.le_of_ble_eq_true rfl⟩))|refine aa.bC ?_|refine aa.ah ?_|refine aa.ae ?_|refine aa.aM ?_|apply aa.di|apply aa.lpU|intro _|(apply aa.cZ ;rfl)|refine aa.aA ?_)
 all_goals first|exact⟨congrArg I (by simp only[Ow,Ox,not_false_eq_true, *];rfl),rfl⟩
def qy(l:List Ev):Prop:=l.length≤1000000∧∀e∈l,Br e
structure kG(c:Cel):Prop where
 x:I64 c.mx
 y:I64 c.my
 step:I64 c.step
 e0:qy c.e0
 e1:qy c.e1
 e2:qy c.e2
 e3:qy c.e3
 e4:qy c.e4
 e5:qy c.e5
def mW(c:Cel):Bool:=eB (aL c.kind) c.d0 c.e0&&eB (aL c.kind) c.d1 c.e1&&eB (aL c.kind) c.d2 c.e2&&eB (aL c.kind) c.d3 c.e3&&eB (aL c.kind) c.d4 c.e4&&eB (aL c.kind) c.d5 c.e5
def gL(b:Bool)(c:Cel):Bool:=aL c.kind||(b&&decide (c.kind=0∨c.kind=1))
def qD(c:Cel):Bool:=(sD c.step==dw c.kind)&&(sD c.step||decide (c.step=0))
def dK(b:Bool)(c:Cel):Bool:=if c.stuff<0∨64<c.stuff then false else if c.skip=true then b&&vC c else gL b c&&qD c&&kW c&&mW c
end Co
namespace Sh
open Go Bt
attribute [local irreducible] aa ACalls
variable {gl:List (Nat×List D)}
def l15:List (List Nat):=[[0,1,2,3,4,5],[0,1,3,2,4,5],[0,1,3,4,2,5],[0,2,1,3,4,5],[0,2,3,1,4,5],[0,3,1,2,4,5],[0,3,1,4,2,5],[0,3,2,1,4,5],[1,0,2,3,4,5],[1,0,3,2,4,5],[1,0,3,4,2,5],[1,2,0,3,4,5],[2,0,1,3,4,5],[2,0,3,1,4,5],[2,1,0,3,4,5]]
def mid(a b c:Int):Int:=max (min a b) (min (max a b) c)
theorem Cz(a b c:Int):ACalls (cxg gl) 157 [I a,I b,I c] [] (fun r H=>r=I (mid a b c)∧H=[]):=by
 refine ACalls.en Tryz.func157 Tryz.ntmps157 ?_;repeat' (first|refine aa.aF ?_|refine aa.bh true ?_|intro _|refine aa.aA ?_)
 all_goals first|exact⟨rfl,rfl⟩|exact⟨congrArg I (by unfold mid;omega),rfl⟩
abbrev pD(p:Int×Int):D := .agg [Nn p.1,Nn p.2]
def vD(l:List (Int×Int)):List D:=l.map pD
theorem zN(l:List (Int×Int)):(vD l).length=l.length:=by simp[vD]
theorem O5(l:List (Int×Int))(i:Int)(h0:0≤i)(h1:i<(vD l).length):(vD l)[i.toNat]?=some (pD (l.getD i.toNat (0,0))):=by
 rw[zN]at h1;have:i.toNat<l.length:=by omega
 simp[vD,List.getD_eq_getElem?_getD,this]
theorem zO(l:List (Int×Int))(i:Int)(h0:0≤i)(h1:i<(vD l).length):(vD l).getD i.toNat .top=pD (l.getD i.toNat (0,0)):=by
 rw[List.getD_eq_getElem?_getD,O5 l i h0 h1];rfl
def lfV(l:List (Int×Int))(A:Int):Int×Int:=if 0<(l.length:Int)%A then l.getD ((l.length:Int)-1).toNat (0,0) else (0,0)
def O8(l:List (Int×Int))(A F:Int):Bool:=decide ((l.length:Int)/A≤max F 0)
def abV(l:List (Int×Int))(A F:Int):Int×Int:=if O8 l A F=true then lfV l A else l.getD ((l.length:Int)-A).toNat (0,0)
def arV(l:List (Int×Int))(A F:Int):Int×Int:=if O8 l A F=true then lfV l A else if (l.length:Int)%A<A-1 then l.getD ((l.length:Int)-A+1).toNat (0,0) else (0,0)
def ofV(l:List (Int×Int))(A F:Int):Int×Int:=(mid (lfV l A).1 (abV l A F).1 (arV l A F).1,mid (lfV l A).2 (abV l A F).2 (arV l A F).2)
theorem zq(n A:Int)(hn:0≤n)(hA:1≤A):0≤n%A∧n%A<A∧n%A≤n∧0≤n/A∧n/A*A=n-n%A∧(n/A-1)*A=n-n%A-A∧(1≤n/A→A≤n-n%A)∧n/A≤n:=by
 have h1:=Int.emod_nonneg n (show A≠0 by omega);have h2:=Int.emod_lt_of_pos n (show 0<A by omega);have h3:=Int.mul_ediv_add_emod n A;have h4:0≤n/A:=Int.ediv_nonneg hn (by omega);have h5:n/A*A=n-n%A:=by rw[Int.mul_comm];omega
 have h6:n/A≤n:=Int.ediv_le_self _ hn;refine⟨h1,h2,?_,h4,h5,?_,?_,h6⟩
 ·have:0≤n/A*A:=Int.mul_nonneg h4 (by omega);omega
 ·rw[Int.sub_mul];omega
 ·intro h;have:1*A≤n/A*A:=Int.mul_le_mul_of_nonneg_right h (by omega);omega
attribute [local irreducible] vD
theorem LL(l:List (Int×Int))(A F:Int)(hA:1≤A∧A≤1000000)(hl:l.length≤1000000):
  ACalls (cxg gl) 156 [.d (.sl 2 (vD l)),I A,I F] [] (fun r H=>r = .cH [.d (pD (lfV l A)), .d (pD (abV l A F)), .d (pD (arV l A F))]∧H=[]):=by
 have hn:=zN l;unfold abV arV O8 lfV;rw[←hn]at hl ⊢;obtain⟨d1,d2,d3,d4,d5,d6,d7,d8⟩:=zq ((vD l).length:Int) A (by omega) hA.1;have g1:=fun h0 h1=>zO l (((vD l).length:Int)-1) h0 h1
 have g2:=fun h0 h1=>zO l (((vD l).length:Int)-A) h0 h1
 have g3:=fun h0 h1=>zO l (((vD l).length:Int)-A+1) h0 h1
 by_cases h1:0<((vD l).length:Int)%A
 ·have m1:=g1 (by omega) (by omega);rw[if_pos h1];by_cases h2:((vD l).length:Int)/A≤max F 0
  ·rw[decide_eq_true h2,if_pos rfl,if_pos rfl];refine ACalls.en Tryz.func156 Tryz.ntmps156 ?_;repeat' (first|refine aa.aF ?_|(apply aa.opx;(apply bR;(iterate 7 rfl);(first|omega|(refine⟨?_,?_⟩<;>omega));exact m1);rfl;rfl;rfl)|refine aa.q'i true ?_|refine aa.G9 true ?_|refine aa.aV ?_|refine aa.ah ?_|refine aa.ae ?_|refine aa.aH ?_|refine aa.aD ?_|intro _|refine aa.aA ?_)
   all_goals exact Tn
  ·rw[decide_eq_false h2,if_neg (by decide),if_neg (by decide)];have m2:=g2 (by omega) (by omega);by_cases h3:((vD l).length:Int)%A<A-1
   ·have m3:=g3 (by omega) (by omega);rw[if_pos h3];refine ACalls.en Tryz.func156 Tryz.ntmps156 ?_;repeat' (first|refine aa.aF ?_|(apply aa.opx;(apply bR;(iterate 7 rfl);(first|omega|(refine⟨?_,?_⟩<;>omega));exact m1);rfl;rfl;rfl)|(apply aa.opx;(apply bR;(iterate 7 rfl);(first|omega|(refine⟨?_,?_⟩<;>omega));exact m2);rfl;rfl;rfl)|(apply aa.opx;(apply bR;(iterate 7 rfl);(first|omega|(refine⟨?_,?_⟩<;>omega));exact m3);rfl;rfl;rfl)|refine aa.q'i true ?_|refine aa.G9 true ?_|refine aa.aV ?_|refine aa.ah ?_|refine aa.ae ?_|refine aa.aH ?_|refine aa.aD ?_|intro _|refine aa.aA ?_)
    all_goals
     apply aa.vY _ l15;rfl;decide +kernel;unfold l15;simp only[Bs,List.filterMap_cons,List.filterMap_nil,List.getElem?_cons_zero,List.getElem?_cons_succ];refine⟨?_,?_,?_,?_,?_,?_,?_,?_,?_,?_,?_,?_,?_,?_,?_,True.intro⟩
    all_goals
     repeat' (first|refine aa.aF ?_|refine aa.bh true ?_|refine aa.eP true ?_|refine aa.aV ?_|refine aa.ah ?_|refine aa.ae ?_|refine aa.aH ?_|refine aa.aD ?_|intro _|refine aa.aA ?_)
     all_goals exact Tn
   ·rw[if_neg h3];refine ACalls.en Tryz.func156 Tryz.ntmps156 ?_;repeat' (first|refine aa.aF ?_|(apply aa.opx;(apply bR;(iterate 7 rfl);(first|omega|(refine⟨?_,?_⟩<;>omega));exact m1);rfl;rfl;rfl)|(apply aa.opx;(apply bR;(iterate 7 rfl);(first|omega|(refine⟨?_,?_⟩<;>omega));exact m2);rfl;rfl;rfl)|refine aa.q'i true ?_|refine aa.G9 true ?_|refine aa.aV ?_|refine aa.ah ?_|refine aa.ae ?_|refine aa.aH ?_|refine aa.aD ?_|intro _|refine aa.aA ?_)
    all_goals
     apply aa.vY _ l15;rfl;decide +kernel;unfold l15;simp only[Bs,List.filterMap_cons,List.filterMap_nil,List.getElem?_cons_zero,List.getElem?_cons_succ];refine⟨?_,?_,?_,?_,?_,?_,?_,?_,?_,?_,?_,?_,?_,?_,?_,True.intro⟩
    all_goals
     repeat' (first|refine aa.aF ?_|refine aa.bh true ?_|refine aa.eP true ?_|refine aa.aV ?_|refine aa.ah ?_|refine aa.ae ?_|refine aa.aH ?_|refine aa.aD ?_|intro _|refine aa.aA ?_)
     all_goals exact Tn
 ·rw[if_neg h1];by_cases h2:((vD l).length:Int)/A≤max F 0
  ·rw[decide_eq_true h2,if_pos rfl,if_pos rfl];refine ACalls.en Tryz.func156 Tryz.ntmps156 ?_;repeat' (first|refine aa.aF ?_|refine aa.q'i true ?_|refine aa.G9 true ?_|refine aa.aV ?_|refine aa.ah ?_|refine aa.ae ?_|refine aa.aH ?_|refine aa.aD ?_|intro _|refine aa.aA ?_)
   all_goals exact Tn
  ·rw[decide_eq_false h2,if_neg (by decide),if_neg (by decide)];have m2:=g2 (by omega) (by omega);by_cases h3:((vD l).length:Int)%A<A-1
   ·have m3:=g3 (by omega) (by omega);rw[if_pos h3];refine ACalls.en Tryz.func156 Tryz.ntmps156 ?_;repeat' (first|refine aa.aF ?_|(apply aa.opx;(apply bR;(iterate 7 rfl);(first|omega|(refine⟨?_,?_⟩<;>omega));exact m2);rfl;rfl;rfl)|(apply aa.opx;(apply bR;(iterate 7 rfl);(first|omega|(refine⟨?_,?_⟩<;>omega));exact m3);rfl;rfl;rfl)|refine aa.q'i true ?_|refine aa.G9 true ?_|refine aa.aV ?_|refine aa.ah ?_|refine aa.ae ?_|refine aa.aH ?_|refine aa.aD ?_|intro _|refine aa.aA ?_)
    all_goals
     apply aa.vY _ l15;rfl;decide +kernel;unfold l15;simp only[Bs,List.filterMap_cons,List.filterMap_nil,List.getElem?_cons_zero,List.getElem?_cons_succ];refine⟨?_,?_,?_,?_,?_,?_,?_,?_,?_,?_,?_,?_,?_,?_,?_,True.intro⟩
    all_goals
     repeat' (first|refine aa.aF ?_|refine aa.bh true ?_|refine aa.eP true ?_|refine aa.aV ?_|refine aa.ah ?_|refine aa.ae ?_|refine aa.aH ?_|refine aa.aD ?_|intro _|refine aa.aA ?_)
     all_goals exact Tn
   ·rw[if_neg h3];refine ACalls.en Tryz.func156 Tryz.ntmps156 ?_;repeat' (first|refine aa.aF ?_|(apply aa.opx;(apply bR;(iterate 7 rfl);(first|omega|(refine⟨?_,?_⟩<;>omega));exact m2);rfl;rfl;rfl)|refine aa.q'i true ?_|refine aa.G9 true ?_|refine aa.aV ?_|refine aa.ah ?_|refine aa.ae ?_|refine aa.aH ?_|refine aa.aD ?_|intro _|refine aa.aA ?_)
    all_goals
     apply aa.vY _ l15;rfl;decide +kernel;unfold l15;simp only[Bs,List.filterMap_cons,List.filterMap_nil,List.getElem?_cons_zero,List.getElem?_cons_succ];refine⟨?_,?_,?_,?_,?_,?_,?_,?_,?_,?_,?_,?_,?_,?_,?_,True.intro⟩
    all_goals
     repeat' (first|refine aa.aF ?_|refine aa.bh true ?_|refine aa.eP true ?_|refine aa.aV ?_|refine aa.ah ?_|refine aa.ae ?_|refine aa.aH ?_|refine aa.aD ?_|intro _|refine aa.aA ?_)
     all_goals exact Tn
attribute [local irreducible] lfV abV arV mid
theorem RH(l:List (Int×Int))(A F:Int)(hA:1≤A∧A≤1000000)(hl:l.length≤1000000):
  ACalls (cxg gl) 82 [.d (.sl 2 (vD l)),I A,I F] [] (fun r H=>r = .d (pD (ofV l A F))∧H=[]):=by
 have ha:=LL (gl:=gl) l A F hA hl;have m1:=Cz (gl:=gl) (lfV l A).1 (abV l A F).1 (arV l A F).1;have m2:=Cz (gl:=gl) (lfV l A).2 (abV l A F).2 (arV l A F).2;refine ACalls.en Tryz.func82 Tryz.ntmps82 ?_;repeat' (first|refine aa.aF ?_|(apply aa.KV (hs:=[0,1,2,3,4,5,6,7,8,9]) (pre:=[10]) (n:=11);exact fun _ _ _ h=>h;rfl;rfl;rfl;decide +kernel;(repeat (first|exact dJ.nil _|(apply dJ.cons true;(iterate 5 rfl);first|exact True.intro|omega|(exact⟨by omega,Nat.le_of_ble_eq_true rfl⟩))));apply PGo.call (m1);(iterate 8 rfl);simp only[ny,nh,Nat.reduceAdd,Nat.reduceSub];apply PGo.nil)|(apply aa.KV (hs:=[0,1,2,3,4,5,6,7,8,9]) (pre:=[10]) (n:=11);exact fun _ _ _ h=>h;rfl;rfl;rfl;decide +kernel;(repeat (first|exact dJ.nil _|(apply dJ.cons true;(iterate 5 rfl);first|exact True.intro|omega|(exact⟨by omega,Nat.le_of_ble_eq_true rfl⟩))));apply PGo.call (m2);(iterate 8 rfl);simp only[ny,nh,Nat.reduceAdd,Nat.reduceSub];apply PGo.nil)|(apply aa.q true;rfl;rfl;rfl;rfl;first|exact True.intro|omega|(simp only[tn,Int.reduceToNat];omega)|(exact⟨by omega,Nat.le_of_ble_eq_true rfl⟩))|refine aa.av (ha) ?_|refine aa.bC ?_|refine aa.ah ?_|refine aa.ae ?_|refine aa.aH ?_|refine aa.aD ?_|apply aa.di|apply aa.lpU|intro _|refine aa.aA ?_)
 all_goals exact Tn
end Sh
namespace Sh
open Go Bt
attribute [local irreducible] aa ACalls
variable {gl:List (Nat×List D)}
attribute [local irreducible] vD
attribute [local irreducible] mid
end Sh
namespace Sh
open Go Bt Co
theorem JO(a b c:Int):mid a b c=a∨mid a b c=b∨mid a b c=c:=by
 unfold mid;omega
def mZ(vs:List (Int×Int)):Prop:=∀p∈vs,I64 p.1∧I64 p.2
theorem gY:I64 0:=by unfold I64;decide
theorem mZ.getD{vs:List (Int×Int)}(h:mZ vs)(i:Nat):I64 (vs.getD i (0,0)).1∧I64 (vs.getD i (0,0)).2:=by
 rw[List.getD_eq_getElem?_getD];cases hx:vs[i]? with
 |none=>exact⟨gY,gY⟩
 |some p=>exact h p (List.mem_of_getElem? hx)
theorem mZ.of{vs:List (Int×Int)}(h:mZ vs)(A F:Int):I64 (ofV vs A F).1∧I64 (ofV vs A F).2:=by
 have z:I64 ((0,0):Int×Int).1∧I64 ((0,0):Int×Int).2:=⟨gY,gY⟩;have h1:I64 (lfV vs A).1∧I64 (lfV vs A).2:=by
  unfold lfV;split
  ·exact h.getD _
  ·exact z
 have h2:I64 (abV vs A F).1∧I64 (abV vs A F).2:=by
  unfold abV;split
  ·exact h1
  ·exact h.getD _
 have h3:I64 (arV vs A F).1∧I64 (arV vs A F).2:=by
  unfold arV;split
  ·exact h1
  ·split
   ·exact h.getD _
   ·exact z
 unfold ofV;constructor
 ·rcases JO (lfV vs A).1 (abV vs A F).1 (arV vs A F).1 with e|e|e
  ·simp only[e];exact h1.1
  ·simp only[e];exact h2.1
  ·simp only[e];exact h3.1
 ·rcases JO (lfV vs A).2 (abV vs A F).2 (arV vs A F).2 with e|e|e
  ·simp only[e];exact h1.2
  ·simp only[e];exact h2.2
  ·simp only[e];exact h3.2
theorem Io(l:List (Int×Int))(p:Int×Int):vD (l++[p])=vD l++[pD p]:=by simp[vD]
end Sh
end Go.Proofs.YtbpednchkndocaaGreatDoor.Av
