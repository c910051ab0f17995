/- Events: what may be one; the levels of a block. The levels of a block: the walks of both Levels. The levels of a block: the walk of the reference's Levels. The reference's words of a text. -/
import Derived.Test.YtbpednchkndocaaGreatDoorPd
import Derived.Test.YtbpednchkndocaaGreatDoorPn
set_option linter.unusedVariables false
set_option linter.unusedSimpArgs false
set_option maxRecDepth 100000
set_option maxHeartbeats 64000000
namespace Go.Proofs.YtbpednchkndocaaGreatDoor.Av
namespace Tc
open Go Bt
attribute [local irreducible] aa ACalls
variable {gl:List (Nat×List D)}
def oJ (m:Nat):Env→Bool
 |[]=>true
 |(_,v)::r=>v.bnd m&&oJ m r
theorem lW (m:Nat):∀(env:Env),oJ m env=true→∀i,(env.get i).bnd m=true
 |[],_,i=>rfl
 |(j,v)::r,h,i=>by
  simp only[oJ,Bool.and_eq_true]at h
  simp only[Env.get]
  cases Nat.beq j i with
  |true=>exact h.1
  |false=>exact lW m r h.2 i
structure Ev where
 last:Bool
 run:Int
 level:Int
abbrev evD (e:Ev):D := .agg [.bool e.last, .int .i64 e.run, .int .i64 e.level]
def bB (l:List Ev):List D:=l.map evD
def evR (e:Ev):Bool:=decide ((0≤e.run∧e.run≤63)∧e.level≠0 ∧ -127≤e.level∧e.level≤127)
def MN (e:Ev):Prop:=(-9223372036854775808≤e.run∧e.run≤9223372036854775807)∧(-9223372036854775808≤e.level∧e.level≤9223372036854775807)
theorem mQ (l:List Ev):(bB l).length=l.length:=by simp[bB]
theorem G8 (l:List Ev) (i:Nat) (e:Ev) (h:l[i]?=some e):(bB l).getD i .top=evD e:=by simp[bB,List.getD,h]
theorem CQ (ti:TI) (ha:ti.agg=true) (hs:ti.size=3) (l:List Ev) (i:Nat) (e:Ev) (h:l[i]?=some e):gI ti ((bB l).getD i .top).cells 0=some (evD e):=by
 rw[G8 l i e h]
 unfold gI evD
 rw[ha,hs];rfl
theorem sj (e:Ev):ACalls (cxg gl) 248 [.d (evD e)] [] (fun r H=>r=B (evR e)∧H=[]):=by
 obtain⟨la,ru,le⟩:=e
 by_cases h:(0≤ru∧ru≤63)∧le≠0 ∧ -127≤le∧le≤127
 ·rw[show evR ⟨la,ru,le⟩=true from decide_eq_true h]
  refine ACalls.en Tryz.func248 Tryz.ntmps248 ?_
  repeat' (first|refine aa.bN true ?_|intro _|(apply aa.gD;rfl;rfl;rfl)|(apply aa.gS;rfl;rfl;rfl)|refine aa.aR ?_)
  all_goals first|exact⟨rfl,rfl⟩|omega|exact⟨congrArg B (by simp only[Bool.true_and,Bool.not_eq_true',Bool.not_eq_false',decide_eq_true_eq,decide_eq_false_iff_not]at *;omega),rfl⟩
 ·rw[show evR ⟨la,ru,le⟩=false from decide_eq_false h]
  refine ACalls.en Tryz.func248 Tryz.ntmps248 ?_
  repeat' (first|refine aa.bN true ?_|intro _|(apply aa.gD;rfl;rfl;rfl)|(apply aa.gS;rfl;rfl;rfl)|refine aa.aR ?_)
  all_goals first|exact⟨rfl,rfl⟩|omega|exact⟨congrArg B (by simp only[Bool.true_and,Bool.not_eq_true',Bool.not_eq_false',decide_eq_true_eq,decide_eq_false_iff_not]at *;omega),rfl⟩
theorem yL (e:Ev):ACalls (cxg gl) 241 [.d (evD e)] [] (fun r H=>r=B (evR e)∧H=[]):=by
 obtain⟨la,ru,le⟩:=e
 by_cases h:(0≤ru∧ru≤63)∧le≠0 ∧ -127≤le∧le≤127
 ·rw[show evR ⟨la,ru,le⟩=true from decide_eq_true h]
  refine ACalls.en Tryz.func241 Tryz.ntmps241 ?_
  repeat' (first|refine aa.bN true ?_|intro _|(apply aa.gD;rfl;rfl;rfl)|refine aa.bA ?_)
  all_goals first|exact⟨rfl,rfl⟩|omega|exact⟨congrArg B (by simp only[Bool.true_and,Bool.not_eq_true',Bool.not_eq_false',decide_eq_true_eq,decide_eq_false_iff_not]at *;omega),rfl⟩
 ·rw[show evR ⟨la,ru,le⟩=false from decide_eq_false h]
  refine ACalls.en Tryz.func241 Tryz.ntmps241 ?_
  repeat' (first|refine aa.bN true ?_|intro _|(apply aa.gD;rfl;rfl;rfl)|refine aa.bA ?_)
  all_goals first|exact⟨rfl,rfl⟩|omega|exact⟨congrArg B (by simp only[Bool.true_and,Bool.not_eq_true',Bool.not_eq_false',decide_eq_true_eq,decide_eq_false_iff_not]at *;omega),rfl⟩
def rS:List Ev→Nat→List Int→Option (List Int)
 |[],_,out=>some out
 |e::r,a,out=>if evR e=true∧e.last=r.isEmpty∧a+e.run.toNat<64 then rS r (a+e.run.toNat+1) (out.set (a+e.run.toNat) e.level) else none
def z64:List Int:=List.replicate 64 0
def lev (l:List Ev) (a:Nat):Option (List Int):=rS l a z64
end Tc
namespace Tc
open Go Bt
attribute [local irreducible] aa ACalls
variable {gl:List (Nat×List D)}
theorem qK (e:Ev) (r:List Ev) (a:Nat) (out:List Int):rS (e::r) a out=if evR e=true∧e.last=r.isEmpty∧a+e.run.toNat<64 then rS r (a+e.run.toNat+1) (out.set (a+e.run.toNat) e.level) else none:=rfl
theorem Hb {e:Ev} (h:evR e=true):(0≤e.run∧e.run≤63)∧e.level≠0 ∧ -127≤e.level∧e.level≤127:=of_decide_eq_true h
theorem zF (a:Nat) (out:List Int):rS [] a out=some out:=rfl
attribute [local irreducible] bB rS evR
end Tc
namespace Tc
open Go Bt
attribute [local irreducible] aa ACalls
variable {gl:List (Nat×List D)}
attribute [local irreducible] bB rS evR
end Tc
namespace Tc
open Go Bt
attribute [local irreducible] aa ACalls
variable {gl:List (Nat×List D)}
def iU (ws:List (List UInt8)) (c:UInt8):List (List UInt8):=if c=32 then ws++[[]] else ws.set (ws.length - 1) (ws.getD (ws.length - 1) []++[c])
def iY (s:List UInt8):List (List UInt8):=s.foldl iU [[]]
theorem EL (ws:List (List UInt8)) (c:UInt8) (h:0<ws.length):0<(iU ws c).length:=by
 unfold iU;split
 ·simp
 ·simpa using h
theorem AO (ws:List (List UInt8)) (x:List UInt8):aS (ws++[x])=aS ws++[.str x]:=by simp[aS]
theorem DN (ws:List (List UInt8)) (i:Nat) (x:List UInt8):aS (ws.set i x)=(aS ws).set i (.str x):=by simp[aS,List.map_set]
theorem FB (ws:List (List UInt8)) (i:Nat) (h:i<ws.length):(aS ws)[i]?=some (.str (ws.getD i [])):=by simp[aS,List.getD,h]
theorem yu (ws:List (List UInt8)) (c:UInt8) (n:Nat) (h:∀w∈ws,w.length≤n) (hp:0<ws.length):∀w∈iU ws c,w.length≤n+1:=by
 unfold iU
 intro w hw
 split at hw
 ·rcases List.mem_append.1 hw with hw|hw
  ·have:=h w hw;omega
  ·simp at hw;subst hw;simp
 ·rcases List.mem_or_eq_of_mem_set hw with hw|rfl
  ·have:=h w hw;omega
  ·have:=h (ws.getD (ws.length - 1) []) (by
    rw[List.getD_eq_getElem?_getD,List.getElem?_eq_getElem (by omega)];exact List.getElem_mem _)
   rw[List.length_append,List.length_singleton];omega
attribute [local irreducible] aS
theorem Ia (s:List UInt8) (hs:s.length≤100000):ACalls (cxg gl) 271 [S s] [] (fun r H=>r = .own 1 (aS (iY s)) 0∧H=[.front 9 1 (aS (iY s)).length]):=by
 have e0:[D.str []]=aS [[]]:=by unfold aS;rfl
 refine ACalls.en Tryz.func271 Tryz.ntmps271 ?_
 repeat (first|refine aa.mW ?_|refine aa.dG ?_)
 refine aa.weak (env':=[(4,I ((0:Nat):Int)),(3, .ms 0 (aS [[]]).length),(0,S s)]) ⟨rfl,congrArg (AV.ms 0) (show 1=(aS [[]]).length by rw[←e0];rfl),rfl,trivial⟩ ?_
 refine aa.loop (fun m env H=>∃(i:Nat) (ws:List (List UInt8)),m=s.length - i∧i≤s.length∧0<ws.length∧ws.length≤i+1∧(∀w∈ws,w.length≤i)∧(s.drop i).foldl iU ws=iY s ∧
  env=[(4,I (i:Int)),(3, .ms 0 (aS ws).length),(0,S s)]∧H=[.arr 9 1 (aS ws)]) s.length
  ⟨0,[[]],by omega,by omega,by decide,by decide,by simp,rfl,rfl,by rw[←e0]⟩ ?_
 rintro m env H ⟨i,ws,rfl,hi,hw0,hw1,hws,hf,rfl,rfl⟩
 have hl:=fG ws
 rcases Nat.lt_or_ge i s.length with hlt|hge
 ·obtain⟨c,hc⟩:∃c,s[i]?=some c:=⟨_,List.getElem?_eq_getElem hlt⟩
  have hb:=xY s i c hc
  rw[mU s i c hc,List.foldl_cons]at hf
  have hwl:(iU ws c).length≤i+1+1:=by
   unfold iU;split
   ·rw[List.length_append,List.length_singleton];omega
   ·rw[List.length_set];omega
  have inv:=fun (hH:_)=>(⟨i+1,iU ws c,rfl,hlt,EL ws c hw0,hwl,yu ws c i hws hw0,hf,rfl,hH⟩:∃(j:Nat) (vs:List (List UInt8)),s.length - (i+1)=s.length - j∧j≤s.length∧0<vs.length∧vs.length≤j+1∧(∀w∈vs,w.length≤j)∧(s.drop j).foldl iU vs=iY s∧[(4,I ((i+1:Nat):Int)),(3,AV.ms 0 (aS (iU ws c)).length),(0,S s)]=[(4,I (j:Int)),(3, .ms 0 (aS vs).length),(0,S s)]∧[au.arr 9 1 (aS (iU ws c))]=[.arr 9 1 (aS vs)])
  by_cases h32:c=32
  ·subst h32
   have hb':bt s (i:Int).toNat=32:=hb
   have e1:aS ws++[.str []]=aS (iU ws 32):=by unfold iU;rw[if_pos rfl,AO]
   repeat' (first|((first|apply aa.q true|apply aa.sq true);rfl;rfl;rfl;rfl;first|exact True.intro|omega|(simp only[tn,Int.reduceToNat];omega)|(rw[hl];simp only[List.length_cons,List.length_nil];omega))|(apply aa.kN;(iterate 11 rfl);(first|rfl|(simp only[List.length_append,List.length_map,List.length_set,List.length_replicate,List.length_cons,List.length_nil];omega)|(rw[hl];simp only[List.length_cons,List.length_nil];omega));(first|(simp only[List.length_append,List.length_map,List.length_cons,List.length_nil];omega)|(rw[hl];simp only[List.length_cons,List.length_nil];omega));simp only[List.set_cons_zero,List.set_cons_succ])|(apply aa.ou;(iterate 11 rfl);(first|rfl|(simp only[List.length_append,List.length_map,List.length_set,List.length_replicate,List.length_cons,List.length_nil];omega)|(rw[hl];simp only[List.length_cons,List.length_nil];omega));rfl;(first|decide|exact Nat.le_of_ble_eq_true rfl|(dsimp only;omega)|decide +kernel|(rw[hl];simp only[List.length_cons,List.length_nil];omega));simp only[List.set_cons_zero,List.set_cons_succ])|(apply aa.yF;(first|(apply jd;(iterate 5 rfl);(first|rfl|(simp only[List.length_append,List.length_map,List.length_set,List.length_replicate,List.length_cons,List.length_nil];omega)|(rw[hl];simp only[List.length_cons,List.length_nil];omega)))|(apply dV;(iterate 8 rfl);(first|rfl|(simp only[List.length_append,List.length_map,List.length_set,List.length_replicate,List.length_cons,List.length_nil];omega)|(rw[hl];simp only[List.length_cons,List.length_nil];omega));(first|decide|exact Nat.le_of_ble_eq_true rfl|(dsimp only;omega)|decide +kernel|(rw[hl];simp only[List.length_cons,List.length_nil];omega)))|(apply dQ;rfl;rfl;rfl;rfl;(first|rfl|(simp only[List.length_append,List.length_map,List.length_set,List.length_replicate,List.length_cons,List.length_nil];omega)|(rw[hl];simp only[List.length_cons,List.length_nil];omega));rfl;rfl));rfl;rfl;rfl)|intro _|refine aa.aR ?_)
   all_goals first|(rw[e1];exact aa.round [(4,I ((i+1:Nat):Int)),(3, .ms 0 (aS (iU ws 32)).length),(0,S s)] (s.length - (i+1)) (by omega) ⟨rfl,rfl,rfl,trivial⟩ (inv rfl))|omega
  ·have hb':bt s (i:Int).toNat≠32:=fun h=>h32 ((mr (c:=c) (n:=32) (by omega)).1 (by rw[←hb];exact h))
   have el:((aS ws).length:Int) - 1=((ws.length - 1:Nat):Int):=by omega
   have m1:(aS ws)[(((aS ws).length:Int) - 1).toNat]?=some (.str (ws.getD (ws.length - 1) [])):=by
    rw[el,Int.toNat_natCast];exact FB ws _ (by omega)
   have ecut:(s.take ((i:Int)+1).toNat).drop (i:Int).toNat=[c]:=by
    rw[show ((i:Int)+1).toNat=i+1 by omega,Int.toNat_natCast,List.take_add_one,hc]
    rw[List.drop_append_of_le_length (by rw[List.length_take];omega),List.drop_of_length_le (by rw[List.length_take];omega)];rfl
   have e1:(aS ws).set (((aS ws).length:Int) - 1).toNat (D.str (ws.getD (ws.length - 1) []++(s.take ((i:Int)+1).toNat).drop (i:Int).toNat))=aS (iU ws c):=by
    unfold iU;rw[if_neg h32,DN,el,Int.toNat_natCast,ecut]
   have hgl:(ws.getD (ws.length - 1) []).length≤i:=hws _ (by rw[List.getD_eq_getElem?_getD,List.getElem?_eq_getElem (by omega)];exact List.getElem_mem _)
   repeat' (first|((first|apply aa.q true|apply aa.sq true);rfl;rfl;rfl;rfl;first|exact True.intro|omega|(simp only[tn,Int.reduceToNat];omega)|omega|(rw[ecut];simp only[List.length_cons,List.length_nil];omega))|(apply aa.kN;(iterate 11 rfl);(first|rfl|(simp only[List.length_append,List.length_map,List.length_set,List.length_replicate,List.length_cons,List.length_nil];omega)|omega|(rw[ecut];simp only[List.length_cons,List.length_nil];omega));(first|(simp only[List.length_append,List.length_map,List.length_cons,List.length_nil];omega)|omega|(rw[ecut];simp only[List.length_cons,List.length_nil];omega));simp only[List.set_cons_zero,List.set_cons_succ])|(apply aa.ou;(iterate 11 rfl);(first|rfl|(simp only[List.length_append,List.length_map,List.length_set,List.length_replicate,List.length_cons,List.length_nil];omega)|omega|(rw[ecut];simp only[List.length_cons,List.length_nil];omega));(first|rfl|exact m1);(first|decide|exact Nat.le_of_ble_eq_true rfl|(dsimp only;omega)|decide +kernel|omega|(rw[ecut];simp only[List.length_cons,List.length_nil];omega));simp only[List.set_cons_zero,List.set_cons_succ])|(apply aa.yF;(first|(apply jd;(iterate 5 rfl);(first|rfl|(simp only[List.length_append,List.length_map,List.length_set,List.length_replicate,List.length_cons,List.length_nil];omega)|omega|(rw[ecut];simp only[List.length_cons,List.length_nil];omega)))|(apply dV;(iterate 8 rfl);(first|rfl|(simp only[List.length_append,List.length_map,List.length_set,List.length_replicate,List.length_cons,List.length_nil];omega)|omega|(rw[ecut];simp only[List.length_cons,List.length_nil];omega));(first|decide|exact Nat.le_of_ble_eq_true rfl|(dsimp only;omega)|decide +kernel|omega|(rw[ecut];simp only[List.length_cons,List.length_nil];omega)))|(apply dQ;rfl;rfl;rfl;rfl;(first|rfl|(simp only[List.length_append,List.length_map,List.length_set,List.length_replicate,List.length_cons,List.length_nil];omega)|omega|(rw[ecut];simp only[List.length_cons,List.length_nil];omega));(first|rfl|exact m1);rfl));rfl;rfl;rfl)|intro _|refine aa.aR ?_)
   refine aa.round [(4,I ((i+1:Nat):Int)),(3, .ms 0 (aS (iU ws c)).length),(0,S s)] (s.length - (i+1)) (by omega) ⟨rfl,congrArg (AV.ms 0) (by rw[←e1,List.length_set]),rfl,trivial⟩ ?_
   rw[show qC (D.str (ws.getD (ws.length - 1) [])) 0 [D.str (ws.getD (ws.length - 1) []++(s.take ((i:Int)+1).toNat).drop (i:Int).toNat)]=D.str (ws.getD (ws.length - 1) []++(s.take ((i:Int)+1).toNat).drop (i:Int).toNat) from rfl,e1]
   exact inv rfl
 ·obtain rfl:i=s.length:=by omega
  rw[List.drop_length]at hf
  have hf':ws=iY s:=hf
  subst hf'
  repeat' (first|refine aa.bN true ?_|(apply aa.kN;(iterate 11 rfl);(first|rfl|(simp only[List.length_append,List.length_map,List.length_set,List.length_replicate,List.length_cons,List.length_nil];omega));((simp only[List.length_append,List.length_map,List.length_cons,List.length_nil];omega));simp only[List.set_cons_zero,List.set_cons_succ])|refine aa.yE ?_|(apply aa.yF;(first|(apply jd;(iterate 5 rfl);(first|rfl|(simp only[List.length_append,List.length_map,List.length_set,List.length_replicate,List.length_cons,List.length_nil];omega)))|(apply dV;(iterate 8 rfl);(first|rfl|(simp only[List.length_append,List.length_map,List.length_set,List.length_replicate,List.length_cons,List.length_nil];omega));(first|decide|exact Nat.le_of_ble_eq_true rfl|(dsimp only;omega)|decide +kernel))|(apply dQ;rfl;rfl;rfl;rfl;(first|rfl|(simp only[List.length_append,List.length_map,List.length_set,List.length_replicate,List.length_cons,List.length_nil];omega));rfl;rfl));rfl;rfl;rfl)|refine aa.ll 2 ?_|intro _|refine aa.aR ?_)
  (apply aa.wV 1;rfl;rfl;rfl;rfl;rfl)
  exact⟨rfl,rfl⟩
end Tc
end Go.Proofs.YtbpednchkndocaaGreatDoor.Av
