/- Events: what may be one; the levels of a block. The levels of a block: the walks of both Levels. The levels of a block: the walk of the reference's Levels. The reference's words of a text. -/
import Derived.Test.YtbpednchkndocaaGreatDoorPd
import Derived.Test.YtbpednchkndocaaGreatDoorPn
set_option linter.unusedVariables false
set_option linter.unusedSimpArgs false
set_option maxRecDepth 100000
set_option maxHeartbeats 64000000
namespace Go.Proofs.YtbpednchkndocaaGreatDoor.Av
namespace Tc
open Go Bt
attribute [local irreducible] aa ACalls
variable {gl:List (Nat×List D)}
def pW (m:Nat):Env→Bool
 |[]=>true
 |(_,v)::r=>v.bnd m&&pW m r
theorem mU (m:Nat):∀(env:Env),pW m env=true→∀i,(env.get i).bnd m=true
 |[],_,i=>rfl
 |(j,v)::r,h,i=>by
  simp only[pW,Bool.and_eq_true]at h
  simp only[Env.get]
  cases Nat.beq j i with
  |true=>exact h.1
  |false=>exact mU m r h.2 i
structure Ev where
 last:Bool
 run:Int
 level:Int
abbrev evD (e:Ev):D := .agg [.bool e.last, .int .i64 e.run, .int .i64 e.level]
def cn (l:List Ev):List D:=l.map evD
def evR (e:Ev):Bool:=decide ((0≤e.run∧e.run≤63)∧e.level≠0 ∧ -127≤e.level∧e.level≤127)
def MJ (e:Ev):Prop:=(-9223372036854775808≤e.run∧e.run≤9223372036854775807)∧(-9223372036854775808≤e.level∧e.level≤9223372036854775807)
theorem nT (l:List Ev):(cn l).length=l.length:=by simp[cn]
theorem Hm (l:List Ev) (i:Nat) (e:Ev) (h:l[i]?=some e):(cn l).getD i .top=evD e:=by simp[cn,List.getD,h]
theorem Dm (ti:TI) (ha:ti.agg=true) (hs:ti.size=3) (l:List Ev) (i:Nat) (e:Ev) (h:l[i]?=some e):iB ti ((cn l).getD i .top).cells 0=some (evD e):=by
 rw[Hm l i e h]
 unfold iB evD
 rw[ha,hs];rfl
theorem tE (e:Ev):ACalls (cxg gl) 248 [.d (evD e)] [] (fun r H=>r=B (evR e)∧H=[]):=by
 obtain⟨la,ru,le⟩:=e
 by_cases h:(0≤ru∧ru≤63)∧le≠0 ∧ -127≤le∧le≤127
 ·rw[show evR ⟨la,ru,le⟩=true from decide_eq_true h]
  refine ACalls.en Tryz.func248 Tryz.ntmps248 ?_
  repeat' (first|refine aa.aD ?_|refine aa.bh true ?_|refine aa.ba ?_|refine aa.aj ?_|refine aa.bL ?_|refine aa.df ?_|refine aa.aB ?_|intro _|(apply aa.gD;rfl;rfl;rfl)|(apply aa.gS;rfl;rfl;rfl)|refine aa.av ?_)
  all_goals first|exact⟨rfl,rfl⟩|omega|exact⟨congrArg B (by simp only[Bool.true_and,Bool.not_eq_true',Bool.not_eq_false',decide_eq_true_eq,decide_eq_false_iff_not]at *;omega),rfl⟩
 ·rw[show evR ⟨la,ru,le⟩=false from decide_eq_false h]
  refine ACalls.en Tryz.func248 Tryz.ntmps248 ?_
  repeat' (first|refine aa.aD ?_|refine aa.bh true ?_|refine aa.ba ?_|refine aa.aj ?_|refine aa.bL ?_|refine aa.df ?_|refine aa.aB ?_|intro _|(apply aa.gD;rfl;rfl;rfl)|(apply aa.gS;rfl;rfl;rfl)|refine aa.av ?_)
  all_goals first|exact⟨rfl,rfl⟩|omega|exact⟨congrArg B (by simp only[Bool.true_and,Bool.not_eq_true',Bool.not_eq_false',decide_eq_true_eq,decide_eq_false_iff_not]at *;omega),rfl⟩
theorem zr (e:Ev):ACalls (cxg gl) 241 [.d (evD e)] [] (fun r H=>r=B (evR e)∧H=[]):=by
 obtain⟨la,ru,le⟩:=e
 by_cases h:(0≤ru∧ru≤63)∧le≠0 ∧ -127≤le∧le≤127
 ·rw[show evR ⟨la,ru,le⟩=true from decide_eq_true h]
  refine ACalls.en Tryz.func241 Tryz.ntmps241 ?_
  repeat' (first|refine aa.aD ?_|refine aa.bh true ?_|refine aa.ba ?_|refine aa.aj ?_|refine aa.bL ?_|refine aa.aB ?_|intro _|(apply aa.gD;rfl;rfl;rfl)|refine aa.av ?_)
  all_goals first|exact⟨rfl,rfl⟩|omega|exact⟨congrArg B (by simp only[Bool.true_and,Bool.not_eq_true',Bool.not_eq_false',decide_eq_true_eq,decide_eq_false_iff_not]at *;omega),rfl⟩
 ·rw[show evR ⟨la,ru,le⟩=false from decide_eq_false h]
  refine ACalls.en Tryz.func241 Tryz.ntmps241 ?_
  repeat' (first|refine aa.aD ?_|refine aa.bh true ?_|refine aa.ba ?_|refine aa.aj ?_|refine aa.bL ?_|refine aa.aB ?_|intro _|(apply aa.gD;rfl;rfl;rfl)|refine aa.av ?_)
  all_goals first|exact⟨rfl,rfl⟩|omega|exact⟨congrArg B (by simp only[Bool.true_and,Bool.not_eq_true',Bool.not_eq_false',decide_eq_true_eq,decide_eq_false_iff_not]at *;omega),rfl⟩
def sV:List Ev→Nat→List Int→Option (List Int)
 |[],_,out=>some out
 |e::r,a,out=>if evR e=true∧e.last=r.isEmpty∧a+e.run.toNat<64 then sV r (a+e.run.toNat+1) (out.set (a+e.run.toNat) e.level) else none
def z64:List Int:=List.replicate 64 0
def lev (l:List Ev) (a:Nat):Option (List Int):=sV l a z64
end Tc
namespace Tc
open Go Bt
attribute [local irreducible] aa ACalls
variable {gl:List (Nat×List D)}
theorem rJ (e:Ev) (r:List Ev) (a:Nat) (out:List Int):sV (e::r) a out=if evR e=true∧e.last=r.isEmpty∧a+e.run.toNat<64 then sV r (a+e.run.toNat+1) (out.set (a+e.run.toNat) e.level) else none:=rfl
theorem Hp {e:Ev} (h:evR e=true):(0≤e.run∧e.run≤63)∧e.level≠0 ∧ -127≤e.level∧e.level≤127:=of_decide_eq_true h
theorem Ad (a:Nat) (out:List Int):sV [] a out=some out:=rfl
attribute [local irreducible] cn sV evR
end Tc
namespace Tc
open Go Bt
attribute [local irreducible] aa ACalls
variable {gl:List (Nat×List D)}
attribute [local irreducible] cn sV evR
end Tc
namespace Tc
open Go Bt
attribute [local irreducible] aa ACalls
variable {gl:List (Nat×List D)}
def jA (ws:List (List UInt8)) (c:UInt8):List (List UInt8):=if c=32 then ws++[[]] else ws.set (ws.length - 1) (ws.getD (ws.length - 1) []++[c])
def jE (s:List UInt8):List (List UInt8):=s.foldl jA [[]]
theorem E9 (ws:List (List UInt8)) (c:UInt8) (h:0<ws.length):0<(jA ws c).length:=by
 unfold jA;split
 ·simp
 ·simpa using h
theorem Bp (ws:List (List UInt8)) (x:List UInt8):bE (ws++[x])=bE ws++[.str x]:=by simp[bE]
theorem Ec (ws:List (List UInt8)) (i:Nat) (x:List UInt8):bE (ws.set i x)=(bE ws).set i (.str x):=by simp[bE,List.map_set]
theorem FQ (ws:List (List UInt8)) (i:Nat) (h:i<ws.length):(bE ws)[i]?=some (.str (ws.getD i [])):=by simp[bE,List.getD,h]
theorem yU (ws:List (List UInt8)) (c:UInt8) (n:Nat) (h:∀w∈ws,w.length≤n) (hp:0<ws.length):∀w∈jA ws c,w.length≤n+1:=by
 unfold jA
 intro w hw
 split at hw
 ·rcases List.mem_append.1 hw with hw|hw
  ·have:=h w hw;omega
  ·simp at hw;subst hw;simp
 ·rcases List.mem_or_eq_of_mem_set hw with hw|rfl
  ·have:=h w hw;omega
  ·have:=h (ws.getD (ws.length - 1) []) (by
    rw[List.getD_eq_getElem?_getD,List.getElem?_eq_getElem (by omega)];exact List.getElem_mem _)
   rw[List.length_append,List.length_singleton];omega
attribute [local irreducible] bE
theorem Il (s:List UInt8) (hs:s.length≤100000):ACalls (cxg gl) 271 [S s] [] (fun r H=>r = .own 1 (bE (jE s)) 0∧H=[.front 9 1 (bE (jE s)).length]):=by
 have e0:[D.str []]=bE [[]]:=by unfold bE;rfl
 refine ACalls.en Tryz.func271 Tryz.ntmps271 ?_
 repeat (first|refine aa.aD ?_|refine aa.nY ?_|refine aa.bh true ?_|refine aa.fP true ?_|refine aa.bP ?_|refine aa.ae ?_|refine aa.af ?_|refine aa.aF ?_)
 refine aa.weak (env':=[(4,I ((0:Nat):Int)),(3, .ms 0 (bE [[]]).length),(0,S s)]) ⟨rfl,congrArg (AV.ms 0) (show 1=(bE [[]]).length by rw[←e0];rfl),rfl,trivial⟩ ?_
 refine aa.loop (fun m env H=>∃(i:Nat) (ws:List (List UInt8)),m=s.length - i∧i≤s.length∧0<ws.length∧ws.length≤i+1∧(∀w∈ws,w.length≤i)∧(s.drop i).foldl jA ws=jE s ∧
  env=[(4,I (i:Int)),(3, .ms 0 (bE ws).length),(0,S s)]∧H=[.arr 9 1 (bE ws)]) s.length
  ⟨0,[[]],by omega,by omega,by decide,by decide,by simp,rfl,rfl,by rw[←e0]⟩ ?_
 rintro m env H ⟨i,ws,rfl,hi,hw0,hw1,hws,hf,rfl,rfl⟩
 have hl:=gK ws
 rcases Nat.lt_or_ge i s.length with hlt|hge
 ·obtain⟨c,hc⟩:∃c,s[i]?=some c:=⟨_,List.getElem?_eq_getElem hlt⟩
  have hb:=yH s i c hc
  rw[nW s i c hc,List.foldl_cons]at hf
  have hwl:(jA ws c).length≤i+1+1:=by
   unfold jA;split
   ·rw[List.length_append,List.length_singleton];omega
   ·rw[List.length_set];omega
  have inv:=fun (hH:_)=>(⟨i+1,jA ws c,rfl,hlt,E9 ws c hw0,hwl,yU ws c i hws hw0,hf,rfl,hH⟩:∃(j:Nat) (vs:List (List UInt8)),s.length - (i+1)=s.length - j∧j≤s.length∧0<vs.length∧vs.length≤j+1∧(∀w∈vs,w.length≤j)∧(s.drop j).foldl jA vs=jE s∧[(4,I ((i+1:Nat):Int)),(3,AV.ms 0 (bE (jA ws c)).length),(0,S s)]=[(4,I (j:Int)),(3, .ms 0 (bE vs).length),(0,S s)]∧[aM.arr 9 1 (bE (jA ws c))]=[.arr 9 1 (bE vs)])
  by_cases h32:c=32
  ·subst h32
   have hb':bt s (i:Int).toNat=32:=hb
   have e1:bE ws++[.str []]=bE (jA ws 32):=by unfold jA;rw[if_pos rfl,Bp]
   repeat' (first|refine aa.aD ?_|((first|apply aa.q true|apply aa.sq true);rfl;rfl;rfl;rfl;first|exact True.intro|omega|(simp only[tn,Int.reduceToNat];omega)|(rw[hl];simp only[List.length_cons,List.length_nil];omega))|refine aa.bP ?_|refine aa.ae ?_|refine aa.af ?_|refine aa.aF ?_|(apply aa.lM;(iterate 11 rfl);(first|rfl|(simp only[List.length_append,List.length_map,List.length_set,List.length_replicate,List.length_cons,List.length_nil];omega)|(rw[hl];simp only[List.length_cons,List.length_nil];omega));(first|(simp only[List.length_append,List.length_map,List.length_cons,List.length_nil];omega)|(rw[hl];simp only[List.length_cons,List.length_nil];omega));simp only[List.set_cons_zero,List.set_cons_succ])|(apply aa.pE;(iterate 11 rfl);(first|rfl|(simp only[List.length_append,List.length_map,List.length_set,List.length_replicate,List.length_cons,List.length_nil];omega)|(rw[hl];simp only[List.length_cons,List.length_nil];omega));rfl;(first|decide|exact Nat.le_of_ble_eq_true rfl|(dsimp only;omega)|decide +kernel|(rw[hl];simp only[List.length_cons,List.length_nil];omega));simp only[List.set_cons_zero,List.set_cons_succ])|(apply aa.zh;(first|(apply jK;(iterate 5 rfl);(first|rfl|(simp only[List.length_append,List.length_map,List.length_set,List.length_replicate,List.length_cons,List.length_nil];omega)|(rw[hl];simp only[List.length_cons,List.length_nil];omega)))|(apply fu;(iterate 8 rfl);(first|rfl|(simp only[List.length_append,List.length_map,List.length_set,List.length_replicate,List.length_cons,List.length_nil];omega)|(rw[hl];simp only[List.length_cons,List.length_nil];omega));(first|decide|exact Nat.le_of_ble_eq_true rfl|(dsimp only;omega)|decide +kernel|(rw[hl];simp only[List.length_cons,List.length_nil];omega)))|(apply eY;rfl;rfl;rfl;rfl;(first|rfl|(simp only[List.length_append,List.length_map,List.length_set,List.length_replicate,List.length_cons,List.length_nil];omega)|(rw[hl];simp only[List.length_cons,List.length_nil];omega));rfl;rfl));rfl;rfl;rfl)|intro _|refine aa.aI ?_)
   all_goals first|(rw[e1];exact aa.round [(4,I ((i+1:Nat):Int)),(3, .ms 0 (bE (jA ws 32)).length),(0,S s)] (s.length - (i+1)) (by omega) ⟨rfl,rfl,rfl,trivial⟩ (inv rfl))|omega
  ·have hb':bt s (i:Int).toNat≠32:=fun h=>h32 ((nE (c:=c) (n:=32) (by omega)).1 (by rw[←hb];exact h))
   have el:((bE ws).length:Int) - 1=((ws.length - 1:Nat):Int):=by omega
   have m1:(bE ws)[(((bE ws).length:Int) - 1).toNat]?=some (.str (ws.getD (ws.length - 1) [])):=by
    rw[el,Int.toNat_natCast];exact FQ ws _ (by omega)
   have ecut:(s.take ((i:Int)+1).toNat).drop (i:Int).toNat=[c]:=by
    rw[show ((i:Int)+1).toNat=i+1 by omega,Int.toNat_natCast,List.take_add_one,hc]
    rw[List.drop_append_of_le_length (by rw[List.length_take];omega),List.drop_of_length_le (by rw[List.length_take];omega)];rfl
   have e1:(bE ws).set (((bE ws).length:Int) - 1).toNat (D.str (ws.getD (ws.length - 1) []++(s.take ((i:Int)+1).toNat).drop (i:Int).toNat))=bE (jA ws c):=by
    unfold jA;rw[if_neg h32,Ec,el,Int.toNat_natCast,ecut]
   have hgl:(ws.getD (ws.length - 1) []).length≤i:=hws _ (by rw[List.getD_eq_getElem?_getD,List.getElem?_eq_getElem (by omega)];exact List.getElem_mem _)
   repeat' (first|refine aa.aD ?_|((first|apply aa.q true|apply aa.sq true);rfl;rfl;rfl;rfl;first|exact True.intro|omega|(simp only[tn,Int.reduceToNat];omega)|omega|(rw[ecut];simp only[List.length_cons,List.length_nil];omega))|refine aa.bP ?_|refine aa.ae ?_|refine aa.af ?_|refine aa.aF ?_|(apply aa.lM;(iterate 11 rfl);(first|rfl|(simp only[List.length_append,List.length_map,List.length_set,List.length_replicate,List.length_cons,List.length_nil];omega)|omega|(rw[ecut];simp only[List.length_cons,List.length_nil];omega));(first|(simp only[List.length_append,List.length_map,List.length_cons,List.length_nil];omega)|omega|(rw[ecut];simp only[List.length_cons,List.length_nil];omega));simp only[List.set_cons_zero,List.set_cons_succ])|(apply aa.pE;(iterate 11 rfl);(first|rfl|(simp only[List.length_append,List.length_map,List.length_set,List.length_replicate,List.length_cons,List.length_nil];omega)|omega|(rw[ecut];simp only[List.length_cons,List.length_nil];omega));(first|rfl|exact m1);(first|decide|exact Nat.le_of_ble_eq_true rfl|(dsimp only;omega)|decide +kernel|omega|(rw[ecut];simp only[List.length_cons,List.length_nil];omega));simp only[List.set_cons_zero,List.set_cons_succ])|(apply aa.zh;(first|(apply jK;(iterate 5 rfl);(first|rfl|(simp only[List.length_append,List.length_map,List.length_set,List.length_replicate,List.length_cons,List.length_nil];omega)|omega|(rw[ecut];simp only[List.length_cons,List.length_nil];omega)))|(apply fu;(iterate 8 rfl);(first|rfl|(simp only[List.length_append,List.length_map,List.length_set,List.length_replicate,List.length_cons,List.length_nil];omega)|omega|(rw[ecut];simp only[List.length_cons,List.length_nil];omega));(first|decide|exact Nat.le_of_ble_eq_true rfl|(dsimp only;omega)|decide +kernel|omega|(rw[ecut];simp only[List.length_cons,List.length_nil];omega)))|(apply eY;rfl;rfl;rfl;rfl;(first|rfl|(simp only[List.length_append,List.length_map,List.length_set,List.length_replicate,List.length_cons,List.length_nil];omega)|omega|(rw[ecut];simp only[List.length_cons,List.length_nil];omega));(first|rfl|exact m1);rfl));rfl;rfl;rfl)|intro _|refine aa.aI ?_)
   refine aa.round [(4,I ((i+1:Nat):Int)),(3, .ms 0 (bE (jA ws c)).length),(0,S s)] (s.length - (i+1)) (by omega) ⟨rfl,congrArg (AV.ms 0) (by rw[←e1,List.length_set]),rfl,trivial⟩ ?_
   rw[show rB (D.str (ws.getD (ws.length - 1) [])) 0 [D.str (ws.getD (ws.length - 1) []++(s.take ((i:Int)+1).toNat).drop (i:Int).toNat)]=D.str (ws.getD (ws.length - 1) []++(s.take ((i:Int)+1).toNat).drop (i:Int).toNat) from rfl,e1]
   exact inv rfl
 ·obtain rfl:i=s.length:=by omega
  rw[List.drop_length]at hf
  have hf':ws=jE s:=hf
  subst hf'
  repeat' (first|refine aa.aD ?_|refine aa.bh true ?_|refine aa.fP true ?_|refine aa.bP ?_|refine aa.ae ?_|refine aa.af ?_|refine aa.aF ?_|(apply aa.lM;(iterate 11 rfl);(first|rfl|(simp only[List.length_append,List.length_map,List.length_set,List.length_replicate,List.length_cons,List.length_nil];omega));((simp only[List.length_append,List.length_map,List.length_cons,List.length_nil];omega));simp only[List.set_cons_zero,List.set_cons_succ])|refine aa.zg ?_|(apply aa.zh;(first|(apply jK;(iterate 5 rfl);(first|rfl|(simp only[List.length_append,List.length_map,List.length_set,List.length_replicate,List.length_cons,List.length_nil];omega)))|(apply fu;(iterate 8 rfl);(first|rfl|(simp only[List.length_append,List.length_map,List.length_set,List.length_replicate,List.length_cons,List.length_nil];omega));(first|decide|exact Nat.le_of_ble_eq_true rfl|(dsimp only;omega)|decide +kernel))|(apply eY;rfl;rfl;rfl;rfl;(first|rfl|(simp only[List.length_append,List.length_map,List.length_set,List.length_replicate,List.length_cons,List.length_nil];omega));rfl;rfl));rfl;rfl;rfl)|refine aa.mi 2 ?_|intro _|refine aa.aI ?_)
  (apply aa.xB 1;rfl;rfl;rfl;rfl;rfl)
  exact⟨rfl,rfl⟩
end Tc
end Go.Proofs.YtbpednchkndocaaGreatDoor.Av
