/- The vector that is foretold. The vector that is foretold: the document's answer. Vectors of cells, and the one that is foretold: bounds. -/
import Derived.Test.YtbpednchkndocaaGreatDoorPs1
import Derived.Test.YtbpednchkndocaaGreatDoorCo3
set_option linter.unusedVariables false
set_option linter.unusedSimpArgs false
set_option maxRecDepth 100000
set_option maxHeartbeats 64000000
namespace Go.Proofs.YtbpednchkndocaaGreatDoor.Av
namespace Sh
open Go Bt
attribute [local irreducible] aa ACalls
variable {gl:List (Nat×List D)}
def l15:List (List Nat):=[[0,1,2,3,4,5],[0,1,3,2,4,5],[0,1,3,4,2,5],[0,2,1,3,4,5],[0,2,3,1,4,5],[0,3,1,2,4,5],[0,3,1,4,2,5],[0,3,2,1,4,5],[1,0,2,3,4,5],[1,0,3,2,4,5],[1,0,3,4,2,5],[1,2,0,3,4,5],[2,0,1,3,4,5],[2,0,3,1,4,5],[2,1,0,3,4,5]]
def mid (a b c:Int):Int:=max (min a b) (min (max a b) c)
theorem zU (a b c:Int):ACalls (cxg gl) 157 [I a,I b,I c] [] (fun r H=>r=I (mid a b c)∧H=[]):=by
 refine ACalls.en Tryz.func157 Tryz.ntmps157 ?_
 repeat' (first|refine aa.aD ?_|refine aa.bh true ?_|intro _|refine aa.av ?_)
 all_goals first|exact⟨rfl,rfl⟩|exact⟨congrArg I (by unfold mid;omega),rfl⟩
theorem fF (a b c:Int):ACalls (cxg gl) 139 [I a,I b,I c] [] (fun r H=>r=I (mid a b c)∧H=[]):=by
 have h1:mid a b c=if b<a then (if c≤b then b else if a≤c then a else c) else (if c≤a then a else if b≤c then b else c):=by unfold mid;split<;>(try split)<;>(try split)<;>omega
 rw[h1]
 refine ACalls.en Tryz.func139 Tryz.ntmps139 ?_
 repeat' (first|refine aa.aD ?_|refine aa.bh true ?_|intro _|(apply aa.ed ;rfl)|refine aa.av ?_)
 all_goals first|exact⟨congrArg I (by (try split)<;>(try split)<;>(try split)<;>omega),rfl⟩
abbrev pD (p:Int×Int):D := .agg [Nn p.1,Nn p.2]
def vD (l:List (Int×Int)):List D:=l.map pD
theorem ry (l:List (Int×Int)):(vD l).length=l.length:=by simp[vD]
theorem KN (l:List (Int×Int)) (i:Int) (h0:0≤i) (h1:i<(vD l).length):(vD l)[i.toNat]?=some (pD (l.getD i.toNat (0,0))):=by
 rw[ry]at h1
 have:i.toNat<l.length:=by omega
 simp[vD,List.getD_eq_getElem?_getD,this]
theorem tj (l:List (Int×Int)) (i:Int) (h0:0≤i) (h1:i<(vD l).length):(vD l).getD i.toNat .top=pD (l.getD i.toNat (0,0)):=by
 rw[List.getD_eq_getElem?_getD,KN l i h0 h1];rfl
def lfV (l:List (Int×Int)) (A:Int):Int×Int:=if 0<(l.length:Int)%A then l.getD ((l.length:Int) - 1).toNat (0,0) else (0,0)
def IA (l:List (Int×Int)) (A F:Int):Bool:=decide ((l.length:Int) / A≤max F 0)
def abV (l:List (Int×Int)) (A F:Int):Int×Int:=if IA l A F=true then lfV l A else l.getD ((l.length:Int) - A).toNat (0,0)
def arV (l:List (Int×Int)) (A F:Int):Int×Int:=if IA l A F=true then lfV l A else if (l.length:Int)%A<A - 1 then l.getD ((l.length:Int) - A+1).toNat (0,0) else (0,0)
def ofV (l:List (Int×Int)) (A F:Int):Int×Int:=(mid (lfV l A).1 (abV l A F).1 (arV l A F).1,mid (lfV l A).2 (abV l A F).2 (arV l A F).2)
theorem oK (n A:Int) (hn:0≤n) (hA:1≤A):0≤n%A∧n%A<A∧n%A≤n∧0≤n / A∧n / A*A=n - n%A∧(n / A - 1)*A=n - n%A - A∧(1≤n / A→A≤n - n%A)∧n / A≤n:=by
 have h1:=Int.emod_nonneg n (show A≠0 by omega)
 have h2:=Int.emod_lt_of_pos n (show 0<A by omega)
 have h3:=Int.mul_ediv_add_emod n A
 have h4:0≤n / A:=Int.ediv_nonneg hn (by omega)
 have h5:n / A*A=n - n%A:=by rw[Int.mul_comm];omega
 have h6:n / A≤n:=Int.ediv_le_self _ hn
 refine⟨h1,h2,?_,h4,h5,?_,?_,h6⟩
 ·have:0≤n / A*A:=Int.mul_nonneg h4 (by omega)
  omega
 ·rw[Int.sub_mul];omega
 ·intro h
  have:1*A≤n / A*A:=Int.mul_le_mul_of_nonneg_right h (by omega)
  omega
attribute [local irreducible] vD
theorem H8 (l:List (Int×Int)) (A F:Int) (hA:1≤A∧A≤1000000) (hl:l.length≤1000000) :
  ACalls (cxg gl) 156 [.d (.sl 2 (vD l)),I A,I F] [] (fun r H=>r = .bK [.d (pD (lfV l A)), .d (pD (abV l A F)), .d (pD (arV l A F))]∧H=[]):=by
 have hn:=ry l
 unfold abV arV IA lfV
 rw[←hn]at hl ⊢
 obtain⟨d1,d2,d3,d4,d5,d6,d7,d8⟩:=oK ((vD l).length:Int) A (by omega) hA.1
 have g1:=fun h0 h1=>tj l (((vD l).length:Int) - 1) h0 h1
 have g2:=fun h0 h1=>tj l (((vD l).length:Int) - A) h0 h1
 have g3:=fun h0 h1=>tj l (((vD l).length:Int) - A+1) h0 h1
 by_cases h1:0<((vD l).length:Int)%A
 ·have m1:=g1 (by omega) (by omega)
  rw[if_pos h1]
  by_cases h2:((vD l).length:Int) / A≤max F 0
  ·rw[decide_eq_true h2,if_pos rfl,if_pos rfl]
   refine ACalls.en Tryz.func156 Tryz.ntmps156 ?_
   repeat' (first|refine aa.aD ?_|(apply aa.opx;(apply dh;(iterate 7 rfl);(first|omega|(refine⟨?_,?_⟩<;>omega));exact m1);rfl;rfl;rfl)|((first|apply aa.q true|apply aa.qq true);rfl;rfl;rfl;rfl;first|exact True.intro|omega|(simp only[tn,Int.reduceToNat];omega)|(refine⟨?_,?_⟩<;>omega))|refine aa.aV ?_|refine aa.ae ?_|refine aa.af ?_|refine aa.aG ?_|refine aa.aA ?_|intro _|refine aa.av ?_)
   all_goals first|exact⟨rfl,rfl⟩|omega
  ·rw[decide_eq_false h2,if_neg (by decide),if_neg (by decide)]
   have m2:=g2 (by omega) (by omega)
   by_cases h3:((vD l).length:Int)%A<A - 1
   ·have m3:=g3 (by omega) (by omega)
    rw[if_pos h3]
    refine ACalls.en Tryz.func156 Tryz.ntmps156 ?_
    repeat' (first|refine aa.aD ?_|(apply aa.opx;(apply dh;(iterate 7 rfl);(first|omega|(refine⟨?_,?_⟩<;>omega));exact m1);rfl;rfl;rfl)|(apply aa.opx;(apply dh;(iterate 7 rfl);(first|omega|(refine⟨?_,?_⟩<;>omega));exact m2);rfl;rfl;rfl)|(apply aa.opx;(apply dh;(iterate 7 rfl);(first|omega|(refine⟨?_,?_⟩<;>omega));exact m3);rfl;rfl;rfl)|((first|apply aa.q true|apply aa.qq true);rfl;rfl;rfl;rfl;first|exact True.intro|omega|(simp only[tn,Int.reduceToNat];omega)|(refine⟨?_,?_⟩<;>omega))|refine aa.aV ?_|refine aa.ae ?_|refine aa.af ?_|refine aa.aG ?_|refine aa.aA ?_|intro _|refine aa.av ?_)
    all_goals
     apply aa.tV _ l15
     rfl
     decide +kernel
     unfold l15
     simp only[yS,List.filterMap_cons,List.filterMap_nil,List.getElem?_cons_zero,List.getElem?_cons_succ]
     refine⟨?_,?_,?_,?_,?_,?_,?_,?_,?_,?_,?_,?_,?_,?_,?_,True.intro⟩
    all_goals
     repeat' (first|refine aa.aD ?_|refine aa.bh true ?_|refine aa.dK true ?_|refine aa.aV ?_|refine aa.ae ?_|refine aa.af ?_|refine aa.aG ?_|refine aa.aA ?_|intro _|refine aa.av ?_)
     all_goals first|exact⟨rfl,rfl⟩|omega
   ·rw[if_neg h3]
    refine ACalls.en Tryz.func156 Tryz.ntmps156 ?_
    repeat' (first|refine aa.aD ?_|(apply aa.opx;(apply dh;(iterate 7 rfl);(first|omega|(refine⟨?_,?_⟩<;>omega));exact m1);rfl;rfl;rfl)|(apply aa.opx;(apply dh;(iterate 7 rfl);(first|omega|(refine⟨?_,?_⟩<;>omega));exact m2);rfl;rfl;rfl)|((first|apply aa.q true|apply aa.qq true);rfl;rfl;rfl;rfl;first|exact True.intro|omega|(simp only[tn,Int.reduceToNat];omega)|(refine⟨?_,?_⟩<;>omega))|refine aa.aV ?_|refine aa.ae ?_|refine aa.af ?_|refine aa.aG ?_|refine aa.aA ?_|intro _|refine aa.av ?_)
    all_goals
     apply aa.tV _ l15
     rfl
     decide +kernel
     unfold l15
     simp only[yS,List.filterMap_cons,List.filterMap_nil,List.getElem?_cons_zero,List.getElem?_cons_succ]
     refine⟨?_,?_,?_,?_,?_,?_,?_,?_,?_,?_,?_,?_,?_,?_,?_,True.intro⟩
    all_goals
     repeat' (first|refine aa.aD ?_|refine aa.bh true ?_|refine aa.dK true ?_|refine aa.aV ?_|refine aa.ae ?_|refine aa.af ?_|refine aa.aG ?_|refine aa.aA ?_|intro _|refine aa.av ?_)
     all_goals first|exact⟨rfl,rfl⟩|omega
 ·rw[if_neg h1]
  by_cases h2:((vD l).length:Int) / A≤max F 0
  ·rw[decide_eq_true h2,if_pos rfl,if_pos rfl]
   refine ACalls.en Tryz.func156 Tryz.ntmps156 ?_
   repeat' (first|refine aa.aD ?_|((first|apply aa.q true|apply aa.qq true);rfl;rfl;rfl;rfl;first|exact True.intro|omega|(simp only[tn,Int.reduceToNat];omega)|(refine⟨?_,?_⟩<;>omega))|refine aa.aV ?_|refine aa.ae ?_|refine aa.af ?_|refine aa.aG ?_|refine aa.aA ?_|intro _|refine aa.av ?_)
   all_goals first|exact⟨rfl,rfl⟩|omega
  ·rw[decide_eq_false h2,if_neg (by decide),if_neg (by decide)]
   have m2:=g2 (by omega) (by omega)
   by_cases h3:((vD l).length:Int)%A<A - 1
   ·have m3:=g3 (by omega) (by omega)
    rw[if_pos h3]
    refine ACalls.en Tryz.func156 Tryz.ntmps156 ?_
    repeat' (first|refine aa.aD ?_|(apply aa.opx;(apply dh;(iterate 7 rfl);(first|omega|(refine⟨?_,?_⟩<;>omega));exact m2);rfl;rfl;rfl)|(apply aa.opx;(apply dh;(iterate 7 rfl);(first|omega|(refine⟨?_,?_⟩<;>omega));exact m3);rfl;rfl;rfl)|((first|apply aa.q true|apply aa.qq true);rfl;rfl;rfl;rfl;first|exact True.intro|omega|(simp only[tn,Int.reduceToNat];omega)|(refine⟨?_,?_⟩<;>omega))|refine aa.aV ?_|refine aa.ae ?_|refine aa.af ?_|refine aa.aG ?_|refine aa.aA ?_|intro _|refine aa.av ?_)
    all_goals
     apply aa.tV _ l15
     rfl
     decide +kernel
     unfold l15
     simp only[yS,List.filterMap_cons,List.filterMap_nil,List.getElem?_cons_zero,List.getElem?_cons_succ]
     refine⟨?_,?_,?_,?_,?_,?_,?_,?_,?_,?_,?_,?_,?_,?_,?_,True.intro⟩
    all_goals
     repeat' (first|refine aa.aD ?_|refine aa.bh true ?_|refine aa.dK true ?_|refine aa.aV ?_|refine aa.ae ?_|refine aa.af ?_|refine aa.aG ?_|refine aa.aA ?_|intro _|refine aa.av ?_)
     all_goals first|exact⟨rfl,rfl⟩|omega
   ·rw[if_neg h3]
    refine ACalls.en Tryz.func156 Tryz.ntmps156 ?_
    repeat' (first|refine aa.aD ?_|(apply aa.opx;(apply dh;(iterate 7 rfl);(first|omega|(refine⟨?_,?_⟩<;>omega));exact m2);rfl;rfl;rfl)|((first|apply aa.q true|apply aa.qq true);rfl;rfl;rfl;rfl;first|exact True.intro|omega|(simp only[tn,Int.reduceToNat];omega)|(refine⟨?_,?_⟩<;>omega))|refine aa.aV ?_|refine aa.ae ?_|refine aa.af ?_|refine aa.aG ?_|refine aa.aA ?_|intro _|refine aa.av ?_)
    all_goals
     apply aa.tV _ l15
     rfl
     decide +kernel
     unfold l15
     simp only[yS,List.filterMap_cons,List.filterMap_nil,List.getElem?_cons_zero,List.getElem?_cons_succ]
     refine⟨?_,?_,?_,?_,?_,?_,?_,?_,?_,?_,?_,?_,?_,?_,?_,True.intro⟩
    all_goals
     repeat' (first|refine aa.aD ?_|refine aa.bh true ?_|refine aa.dK true ?_|refine aa.aV ?_|refine aa.ae ?_|refine aa.af ?_|refine aa.aG ?_|refine aa.aA ?_|intro _|refine aa.av ?_)
     all_goals first|exact⟨rfl,rfl⟩|omega
attribute [local irreducible] lfV abV arV mid
theorem Om (l:List (Int×Int)) (A F:Int) (hA:1≤A∧A≤1000000) (hl:l.length≤1000000) :
  ACalls (cxg gl) 82 [.d (.sl 2 (vD l)),I A,I F] [] (fun r H=>r = .d (pD (ofV l A F))∧H=[]):=by
 have ha:=H8 (gl:=gl) l A F hA hl
 have m1:=zU (gl:=gl) (lfV l A).1 (abV l A F).1 (arV l A F).1
 have m2:=zU (gl:=gl) (lfV l A).2 (abV l A F).2 (arV l A F).2
 refine ACalls.en Tryz.func82 Tryz.ntmps82 ?_
 repeat' (first|refine aa.aD ?_|(apply aa.sP (hs:=[0,1,2,3,4,5,6,7,8,9]) (pre:=[10]) (n:=11);exact fun _ _ _ h=>h;rfl;rfl;rfl;decide +kernel;(repeat (first|exact cE.nil _|(apply cE.cons true;(iterate 5 rfl);first|exact True.intro|omega|(exact⟨by omega,Nat.le_of_ble_eq_true rfl⟩))));apply PGo.call (m1);(iterate 8 rfl);simp only[ny,nh,Nat.reduceAdd,Nat.reduceSub];apply PGo.nil)|(apply aa.sP (hs:=[0,1,2,3,4,5,6,7,8,9]) (pre:=[10]) (n:=11);exact fun _ _ _ h=>h;rfl;rfl;rfl;decide +kernel;(repeat (first|exact cE.nil _|(apply cE.cons true;(iterate 5 rfl);first|exact True.intro|omega|(exact⟨by omega,Nat.le_of_ble_eq_true rfl⟩))));apply PGo.call (m2);(iterate 8 rfl);simp only[ny,nh,Nat.reduceAdd,Nat.reduceSub];apply PGo.nil)|(apply aa.q true;rfl;rfl;rfl;rfl;first|exact True.intro|omega|(simp only[tn,Int.reduceToNat];omega)|(exact⟨by omega,Nat.le_of_ble_eq_true rfl⟩))|refine aa.ah (ha) ?_|refine aa.aW ?_|refine aa.ae ?_|refine aa.af ?_|refine aa.aG ?_|refine aa.aA ?_|apply aa.cK|apply aa.lpU|intro _|refine aa.av ?_)
 all_goals first|exact⟨rfl,rfl⟩|omega
end Sh
namespace Sh
open Go Bt
attribute [local irreducible] aa ACalls
variable {gl:List (Nat×List D)}
attribute [local irreducible] vD
theorem Bu (l:List (Int×Int)) (A c ln:Int) (h:c<0∨A≤c) :
  ACalls (cxg gl) 138 [.d (.sl 2 (vD l)),I A,I c,I ln] [] (fun r H=>r = .d (pD (0,0))∧H=[]):=by
 refine ACalls.en Tryz.func138 Tryz.ntmps138 ?_
 repeat' (first|refine aa.aD ?_|refine aa.bh true ?_|refine aa.ae ?_|refine aa.au ?_|refine aa.aG ?_|refine aa.aA ?_|refine aa.aL ?_|refine aa.aj ?_|refine aa.aB ?_|intro _|(apply aa.gD;rfl;rfl;rfl)|refine aa.av ?_)
 all_goals first|exact⟨rfl,rfl⟩|omega
theorem qh (l:List (Int×Int)) (A c ln i:Int) (h:0≤c∧c<A) (hi:ln*A+c=i) (hm:0≤ln*A∧ln*A≤1000000000) (hb:0≤i∧i<(vD l).length) (hl:(vD l).length≤1000000) :
  ACalls (cxg gl) 138 [.d (.sl 2 (vD l)),I A,I c,I ln] [] (fun r H=>r = .d (pD (l.getD i.toNat (0,0)))∧H=[]):=by
 subst hi
 have g1:=tj l (ln*A+c) hb.1 hb.2
 have hm2 : -9223372036854775808≤ln*A∧ln*A≤9223372036854775807:=⟨by omega,by omega⟩
 refine ACalls.en Tryz.func138 Tryz.ntmps138 ?_
 repeat' (first|refine aa.aD ?_|(apply aa.opx;(apply dh;(iterate 7 rfl);(first|omega|(exact hm2)|(exact hb));exact g1);rfl;rfl;rfl)|(apply aa.q true;rfl;rfl;rfl;rfl;first|exact True.intro|omega|(simp only[tn,Int.reduceToNat];omega)|(exact hm2)|(exact hb))|refine aa.af ?_|refine aa.aG ?_|refine aa.aA ?_|refine aa.aj ?_|refine aa.bq ?_|intro _|refine aa.av ?_)
 all_goals first|exact⟨rfl,rfl⟩|omega
attribute [local irreducible] mid
theorem Ki (l:List (Int×Int)) (A F:Int) (hA:1≤A∧A≤1000000) (hl:l.length≤1000000) :
  ACalls (cxg gl) 63 [.d (.sl 2 (vD l)),I A,I F] [] (fun r H=>r = .d (pD (ofV l A F))∧H=[]):=by
 have hn:=ry l
 unfold ofV abV arV IA lfV
 rw[←hn]at hl ⊢
 obtain⟨d1,d2,d3,d4,d5,d6,d7,d8⟩:=oK ((vD l).length:Int) A (by omega) hA.1
 by_cases h1:0<((vD l).length:Int)%A
 ·rw[if_pos h1]
  have c1:=qh (gl:=gl) l A (((vD l).length:Int)%A - 1) (((vD l).length:Int) / A) (((vD l).length:Int) - 1) (by omega) (by omega) (by omega) (by omega) hl
  by_cases h2:((vD l).length:Int) / A≤max F 0
  ·rw[decide_eq_true h2,if_pos rfl,if_pos rfl]
   have q1:=fF (gl:=gl) (l.getD (((vD l).length:Int) - 1).toNat (0,0)).1 (l.getD (((vD l).length:Int) - 1).toNat (0,0)).1 (l.getD (((vD l).length:Int) - 1).toNat (0,0)).1
   have q2:=fF (gl:=gl) (l.getD (((vD l).length:Int) - 1).toNat (0,0)).2 (l.getD (((vD l).length:Int) - 1).toNat (0,0)).2 (l.getD (((vD l).length:Int) - 1).toNat (0,0)).2
   refine ACalls.en Tryz.func63 Tryz.ntmps63 ?_
   repeat' (first|refine aa.aD ?_|(apply aa.sP (hs:=[0,1,2,3,4,5,7,8,9,10,11,12]) (pre:=[6,13]) (n:=14);exact fun _ _ _ h=>h;rfl;rfl;rfl;decide +kernel;(repeat (first|exact cE.nil _|(apply cE.cons true;(iterate 5 rfl);first|exact True.intro|omega|(rw[hn];omega)|(exact⟨by omega,Nat.le_of_ble_eq_true rfl⟩))));apply PGo.call (q1);(iterate 8 rfl);simp only[ny,nh,Nat.reduceAdd,Nat.reduceSub];apply PGo.call (q2);(iterate 8 rfl);simp only[ny,nh,Nat.reduceAdd,Nat.reduceSub];apply PGo.nil)|(apply aa.q true;rfl;rfl;rfl;rfl;first|exact True.intro|omega|(simp only[tn,Int.reduceToNat];omega)|(rw[hn];omega)|(exact⟨by omega,Nat.le_of_ble_eq_true rfl⟩))|refine aa.ah (c1) ?_|refine aa.ae ?_|refine aa.af ?_|refine aa.ai ?_|refine aa.aG ?_|refine aa.aA ?_|refine aa.aL ?_|refine aa.aj ?_|refine aa.bL ?_|refine aa.aB ?_|intro _|(apply aa.gD;rfl;rfl;rfl)|refine aa.av ?_)
   all_goals first|exact⟨rfl,rfl⟩|omega
  ·rw[decide_eq_false h2,if_neg (by decide),if_neg (by decide)]
   have c2:=qh (gl:=gl) l A (((vD l).length:Int)%A) (((vD l).length:Int) / A - 1) (((vD l).length:Int) - A) (by omega) (by omega) (by omega) (by omega) hl
   by_cases h3:((vD l).length:Int)%A<A - 1
   ·rw[if_pos h3]
    have c3:=qh (gl:=gl) l A (((vD l).length:Int)%A+1) (((vD l).length:Int) / A - 1) (((vD l).length:Int) - A+1) (by omega) (by omega) (by omega) (by omega) hl
    have q1:=fF (gl:=gl) (l.getD (((vD l).length:Int) - 1).toNat (0,0)).1 (l.getD (((vD l).length:Int) - A).toNat (0,0)).1 (l.getD (((vD l).length:Int) - A+1).toNat (0,0)).1
    have q2:=fF (gl:=gl) (l.getD (((vD l).length:Int) - 1).toNat (0,0)).2 (l.getD (((vD l).length:Int) - A).toNat (0,0)).2 (l.getD (((vD l).length:Int) - A+1).toNat (0,0)).2
    refine ACalls.en Tryz.func63 Tryz.ntmps63 ?_
    repeat' (first|refine aa.aD ?_|(apply aa.sP (hs:=[0,1,2,3,4,5,7,8,9,10,11,12]) (pre:=[6,13]) (n:=14);exact fun _ _ _ h=>h;rfl;rfl;rfl;decide +kernel;(repeat (first|exact cE.nil _|(apply cE.cons true;(iterate 5 rfl);first|exact True.intro|omega|(rw[hn];omega)|(exact⟨by omega,Nat.le_of_ble_eq_true rfl⟩))));apply PGo.call (q1);(iterate 8 rfl);simp only[ny,nh,Nat.reduceAdd,Nat.reduceSub];apply PGo.call (q2);(iterate 8 rfl);simp only[ny,nh,Nat.reduceAdd,Nat.reduceSub];apply PGo.nil)|(apply aa.q true;rfl;rfl;rfl;rfl;first|exact True.intro|omega|(simp only[tn,Int.reduceToNat];omega)|(rw[hn];omega)|(exact⟨by omega,Nat.le_of_ble_eq_true rfl⟩))|refine aa.ah (c1) ?_|refine aa.ah (c2) ?_|refine aa.ah (c3) ?_|refine aa.ae ?_|refine aa.af ?_|refine aa.ai ?_|refine aa.aG ?_|refine aa.aA ?_|refine aa.aL ?_|refine aa.aj ?_|refine aa.bL ?_|refine aa.aB ?_|intro _|(apply aa.gD;rfl;rfl;rfl)|refine aa.av ?_)
    all_goals first|exact⟨rfl,rfl⟩|omega
   ·rw[if_neg h3]
    have c3:=Bu (gl:=gl) l A (((vD l).length:Int)%A+1) (((vD l).length:Int) / A - 1) (by omega)
    have q1:=fF (gl:=gl) (l.getD (((vD l).length:Int) - 1).toNat (0,0)).1 (l.getD (((vD l).length:Int) - A).toNat (0,0)).1 (((0,0):Int×Int)).1
    have q2:=fF (gl:=gl) (l.getD (((vD l).length:Int) - 1).toNat (0,0)).2 (l.getD (((vD l).length:Int) - A).toNat (0,0)).2 (((0,0):Int×Int)).2
    refine ACalls.en Tryz.func63 Tryz.ntmps63 ?_
    repeat' (first|refine aa.aD ?_|(apply aa.sP (hs:=[0,1,2,3,4,5,7,8,9,10,11,12]) (pre:=[6,13]) (n:=14);exact fun _ _ _ h=>h;rfl;rfl;rfl;decide +kernel;(repeat (first|exact cE.nil _|(apply cE.cons true;(iterate 5 rfl);first|exact True.intro|omega|(rw[hn];omega)|(exact⟨by omega,Nat.le_of_ble_eq_true rfl⟩))));apply PGo.call (q1);(iterate 8 rfl);simp only[ny,nh,Nat.reduceAdd,Nat.reduceSub];apply PGo.call (q2);(iterate 8 rfl);simp only[ny,nh,Nat.reduceAdd,Nat.reduceSub];apply PGo.nil)|(apply aa.q true;rfl;rfl;rfl;rfl;first|exact True.intro|omega|(simp only[tn,Int.reduceToNat];omega)|(rw[hn];omega)|(exact⟨by omega,Nat.le_of_ble_eq_true rfl⟩))|refine aa.ah (c1) ?_|refine aa.ah (c2) ?_|refine aa.ah (c3) ?_|refine aa.ae ?_|refine aa.af ?_|refine aa.ai ?_|refine aa.aG ?_|refine aa.aA ?_|refine aa.aL ?_|refine aa.aj ?_|refine aa.bL ?_|refine aa.aB ?_|intro _|(apply aa.gD;rfl;rfl;rfl)|refine aa.av ?_)
    all_goals first|exact⟨rfl,rfl⟩|omega
 ·rw[if_neg h1]
  have c1:=Bu (gl:=gl) l A (((vD l).length:Int)%A - 1) (((vD l).length:Int) / A) (by omega)
  by_cases h2:((vD l).length:Int) / A≤max F 0
  ·rw[decide_eq_true h2,if_pos rfl,if_pos rfl]
   have q1:=fF (gl:=gl) (((0,0):Int×Int)).1 (((0,0):Int×Int)).1 (((0,0):Int×Int)).1
   have q2:=fF (gl:=gl) (((0,0):Int×Int)).2 (((0,0):Int×Int)).2 (((0,0):Int×Int)).2
   refine ACalls.en Tryz.func63 Tryz.ntmps63 ?_
   repeat' (first|refine aa.aD ?_|(apply aa.sP (hs:=[0,1,2,3,4,5,7,8,9,10,11,12]) (pre:=[6,13]) (n:=14);exact fun _ _ _ h=>h;rfl;rfl;rfl;decide +kernel;(repeat (first|exact cE.nil _|(apply cE.cons true;(iterate 5 rfl);first|exact True.intro|omega|(rw[hn];omega)|(exact⟨by omega,Nat.le_of_ble_eq_true rfl⟩))));apply PGo.call (q1);(iterate 8 rfl);simp only[ny,nh,Nat.reduceAdd,Nat.reduceSub];apply PGo.call (q2);(iterate 8 rfl);simp only[ny,nh,Nat.reduceAdd,Nat.reduceSub];apply PGo.nil)|(apply aa.q true;rfl;rfl;rfl;rfl;first|exact True.intro|omega|(simp only[tn,Int.reduceToNat];omega)|(rw[hn];omega)|(exact⟨by omega,Nat.le_of_ble_eq_true rfl⟩))|refine aa.ah (c1) ?_|refine aa.ae ?_|refine aa.af ?_|refine aa.ai ?_|refine aa.aG ?_|refine aa.aA ?_|refine aa.aL ?_|refine aa.aj ?_|refine aa.bL ?_|refine aa.aB ?_|intro _|(apply aa.gD;rfl;rfl;rfl)|refine aa.av ?_)
   all_goals first|exact⟨rfl,rfl⟩|omega
  ·rw[decide_eq_false h2,if_neg (by decide),if_neg (by decide)]
   have c2:=qh (gl:=gl) l A (((vD l).length:Int)%A) (((vD l).length:Int) / A - 1) (((vD l).length:Int) - A) (by omega) (by omega) (by omega) (by omega) hl
   by_cases h3:((vD l).length:Int)%A<A - 1
   ·rw[if_pos h3]
    have c3:=qh (gl:=gl) l A (((vD l).length:Int)%A+1) (((vD l).length:Int) / A - 1) (((vD l).length:Int) - A+1) (by omega) (by omega) (by omega) (by omega) hl
    have q1:=fF (gl:=gl) (((0,0):Int×Int)).1 (l.getD (((vD l).length:Int) - A).toNat (0,0)).1 (l.getD (((vD l).length:Int) - A+1).toNat (0,0)).1
    have q2:=fF (gl:=gl) (((0,0):Int×Int)).2 (l.getD (((vD l).length:Int) - A).toNat (0,0)).2 (l.getD (((vD l).length:Int) - A+1).toNat (0,0)).2
    refine ACalls.en Tryz.func63 Tryz.ntmps63 ?_
    repeat' (first|refine aa.aD ?_|(apply aa.sP (hs:=[0,1,2,3,4,5,7,8,9,10,11,12]) (pre:=[6,13]) (n:=14);exact fun _ _ _ h=>h;rfl;rfl;rfl;decide +kernel;(repeat (first|exact cE.nil _|(apply cE.cons true;(iterate 5 rfl);first|exact True.intro|omega|(rw[hn];omega)|(exact⟨by omega,Nat.le_of_ble_eq_true rfl⟩))));apply PGo.call (q1);(iterate 8 rfl);simp only[ny,nh,Nat.reduceAdd,Nat.reduceSub];apply PGo.call (q2);(iterate 8 rfl);simp only[ny,nh,Nat.reduceAdd,Nat.reduceSub];apply PGo.nil)|(apply aa.q true;rfl;rfl;rfl;rfl;first|exact True.intro|omega|(simp only[tn,Int.reduceToNat];omega)|(rw[hn];omega)|(exact⟨by omega,Nat.le_of_ble_eq_true rfl⟩))|refine aa.ah (c1) ?_|refine aa.ah (c2) ?_|refine aa.ah (c3) ?_|refine aa.ae ?_|refine aa.af ?_|refine aa.ai ?_|refine aa.aG ?_|refine aa.aA ?_|refine aa.aL ?_|refine aa.aj ?_|refine aa.bL ?_|refine aa.aB ?_|intro _|(apply aa.gD;rfl;rfl;rfl)|refine aa.av ?_)
    all_goals first|exact⟨rfl,rfl⟩|omega
   ·rw[if_neg h3]
    have c3:=Bu (gl:=gl) l A (((vD l).length:Int)%A+1) (((vD l).length:Int) / A - 1) (by omega)
    have q1:=fF (gl:=gl) (((0,0):Int×Int)).1 (l.getD (((vD l).length:Int) - A).toNat (0,0)).1 (((0,0):Int×Int)).1
    have q2:=fF (gl:=gl) (((0,0):Int×Int)).2 (l.getD (((vD l).length:Int) - A).toNat (0,0)).2 (((0,0):Int×Int)).2
    refine ACalls.en Tryz.func63 Tryz.ntmps63 ?_
    repeat' (first|refine aa.aD ?_|(apply aa.sP (hs:=[0,1,2,3,4,5,7,8,9,10,11,12]) (pre:=[6,13]) (n:=14);exact fun _ _ _ h=>h;rfl;rfl;rfl;decide +kernel;(repeat (first|exact cE.nil _|(apply cE.cons true;(iterate 5 rfl);first|exact True.intro|omega|(rw[hn];omega)|(exact⟨by omega,Nat.le_of_ble_eq_true rfl⟩))));apply PGo.call (q1);(iterate 8 rfl);simp only[ny,nh,Nat.reduceAdd,Nat.reduceSub];apply PGo.call (q2);(iterate 8 rfl);simp only[ny,nh,Nat.reduceAdd,Nat.reduceSub];apply PGo.nil)|(apply aa.q true;rfl;rfl;rfl;rfl;first|exact True.intro|omega|(simp only[tn,Int.reduceToNat];omega)|(rw[hn];omega)|(exact⟨by omega,Nat.le_of_ble_eq_true rfl⟩))|refine aa.ah (c1) ?_|refine aa.ah (c2) ?_|refine aa.ah (c3) ?_|refine aa.ae ?_|refine aa.af ?_|refine aa.ai ?_|refine aa.aG ?_|refine aa.aA ?_|refine aa.aL ?_|refine aa.aj ?_|refine aa.bL ?_|refine aa.aB ?_|intro _|(apply aa.gD;rfl;rfl;rfl)|refine aa.av ?_)
    all_goals first|exact⟨rfl,rfl⟩|omega
end Sh
namespace Sh
open Go Bt Co
theorem Gv (a b c:Int):mid a b c=a∨mid a b c=b∨mid a b c=c:=by
 unfold mid
 omega
def mY (vs:List (Int×Int)):Prop:=∀p∈vs,I64 p.1∧I64 p.2
theorem iL:I64 0:=by unfold I64;decide
theorem mY.getD {vs:List (Int×Int)} (h:mY vs) (i:Nat):I64 (vs.getD i (0,0)).1∧I64 (vs.getD i (0,0)).2:=by
 rw[List.getD_eq_getElem?_getD]
 cases hx:vs[i]? with
 |none=>exact⟨iL,iL⟩
 |some p=>exact h p (List.mem_of_getElem? hx)
theorem mY.of {vs:List (Int×Int)} (h:mY vs) (A F:Int):I64 (ofV vs A F).1∧I64 (ofV vs A F).2:=by
 have z:I64 ((0,0):Int×Int).1∧I64 ((0,0):Int×Int).2:=⟨iL,iL⟩
 have h1:I64 (lfV vs A).1∧I64 (lfV vs A).2:=by
  unfold lfV;split
  ·exact h.getD _
  ·exact z
 have h2:I64 (abV vs A F).1∧I64 (abV vs A F).2:=by
  unfold abV;split
  ·exact h1
  ·exact h.getD _
 have h3:I64 (arV vs A F).1∧I64 (arV vs A F).2:=by
  unfold arV;split
  ·exact h1
  ·split
   ·exact h.getD _
   ·exact z
 unfold ofV
 constructor
 ·rcases Gv (lfV vs A).1 (abV vs A F).1 (arV vs A F).1 with e|e|e
  ·simp only[e];exact h1.1
  ·simp only[e];exact h2.1
  ·simp only[e];exact h3.1
 ·rcases Gv (lfV vs A).2 (abV vs A F).2 (arV vs A F).2 with e|e|e
  ·simp only[e];exact h1.2
  ·simp only[e];exact h2.2
  ·simp only[e];exact h3.2
theorem Bb (l:List (Int×Int)) (p:Int×Int):vD (l++[p])=vD l++[pD p]:=by simp[vD]
end Sh
end Go.Proofs.YtbpednchkndocaaGreatDoor.Av
