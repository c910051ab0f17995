/- mcbpc: the reference's Take. The laws of mcbpc. -/
import Derived.Test.YtbpednchkndocaaGreatDoorPy7
set_option linter.unusedVariables false
set_option linter.unusedSimpArgs false
set_option maxRecDepth 100000
set_option maxHeartbeats 64000000
namespace Go.Proofs.YtbpednchkndocaaGreatDoor.Av
namespace Mb
open Go Bt Px
attribute [local irreducible] aa ACalls
variable {gl:List (Nat×List D)}
theorem Bi (b:Bool):∀r∈gL b,r.length≤24:=by unfold gL;cases b<;>decide +kernel
theorem zy (b:Bool):gL b=if b=true then wdI.flatten else wdJ.flatten:=by unfold gL;cases b<;>decide +kernel
abbrev OH (x:Int×Int×Int×Int):AV := .aX [I x.1,I x.2.1,I x.2.2.1,I x.2.2.2]
attribute [local irreducible] mbX oz
theorem DT (b:Bool) (L:List UInt8) (p:Nat) (hL:L.length≤1000000) (hp:p≤L.length) :
  ACalls (cxg gl) 201 [S L,I p,B b] [] (fun r H=>r=OH ((mbX b (L.drop p)).1,(mbX b (L.drop p)).2.1,((oz p (mbX b (L.drop p)):Nat):Int),(mbX b (L.drop p)).2.2.1)∧H=[]):=by
 have rr:=FE (gl:=gl) b
 have ht:=rZ (gl:=gl) (gL b) L p (by rw[mK];split<;>decide) hL (by omega)
 rw[qB (gL b) L p (Bi b) hp]at ht
 have he:=tT (gL b) (L.drop p) []
 have hb:=ib (gL b) (L.drop p) []
 rw[mK]at hb
 unfold mbX
 generalize bV (gL b) (L.drop p) []=y at *
 obtain⟨i,e,c⟩:=y
 simp only at he hb ht ⊢
 rw[zy]at ht
 unfold aS at ht rr
 unfold xy at rr
 unfold nX at ht
 by_cases h0:e=0
 ·have hb':=hb h0
  subst h0
  simp only[if_true]at ht ⊢
  cases b
  ·simp only[Bool.false_eq_true,if_false]at ht hb' ⊢
   by_cases h2:(i+12) / 4=2
   ·rw[if_pos h2]
    unfold oz
    refine ACalls.en Tryz.func201 Tryz.ntmps201 ?_
    repeat' (first|(apply aa.append;(iterate 11 rfl);(first|rfl|(simp only[List.length_append,List.length_map,List.length_cons,List.length_nil];omega));(first|(simp only[List.length_append,List.length_map,List.length_cons,List.length_nil];omega)|(decide));simp only[List.set_cons_zero,List.set_cons_succ])|(apply aa.fS;(iterate 10 rfl);(first|(simp only[List.length_append,List.length_map,List.length_cons,List.length_nil];omega)|(decide));simp only[List.nil_append,List.cons_append,List.length_nil,List.length_cons,Nat.reduceAdd])|(apply aa.q true;rfl;rfl;rfl;rfl;first|exact True.intro|omega|(simp only[tn,Int.reduceToNat];omega)|(decide))|refine aa.dM (ht) ?_|refine aa.ae (rr) ?_|apply aa.bO|apply aa.lpU|intro _|refine aa.bA ?_)
    all_goals first|exact⟨rfl,rfl⟩|omega
   ·rw[if_neg h2]
    unfold oz
    refine ACalls.en Tryz.func201 Tryz.ntmps201 ?_
    repeat' (first|(apply aa.append;(iterate 11 rfl);(first|rfl|(simp only[List.length_append,List.length_map,List.length_cons,List.length_nil];omega));(first|(simp only[List.length_append,List.length_map,List.length_cons,List.length_nil];omega)|(decide));simp only[List.set_cons_zero,List.set_cons_succ])|(apply aa.fS;(iterate 10 rfl);(first|(simp only[List.length_append,List.length_map,List.length_cons,List.length_nil];omega)|(decide));simp only[List.nil_append,List.cons_append,List.length_nil,List.length_cons,Nat.reduceAdd])|(apply aa.q true;rfl;rfl;rfl;rfl;first|exact True.intro|omega|(simp only[tn,Int.reduceToNat];omega)|(decide))|refine aa.dM (ht) ?_|refine aa.ae (rr) ?_|apply aa.bO|apply aa.lpU|intro _|refine aa.bA ?_)
    all_goals first|exact⟨rfl,rfl⟩|omega
  ·simp only[if_true,Int.add_zero]at ht hb' ⊢
   by_cases h2:i / 4=2
   ·rw[if_pos h2]
    unfold oz
    refine ACalls.en Tryz.func201 Tryz.ntmps201 ?_
    repeat' (first|(apply aa.append;(iterate 11 rfl);(first|rfl|(simp only[List.length_append,List.length_map,List.length_cons,List.length_nil];omega));(first|(simp only[List.length_append,List.length_map,List.length_cons,List.length_nil];omega)|(decide));simp only[List.set_cons_zero,List.set_cons_succ])|(apply aa.fS;(iterate 10 rfl);(first|(simp only[List.length_append,List.length_map,List.length_cons,List.length_nil];omega)|(decide));simp only[List.nil_append,List.cons_append,List.length_nil,List.length_cons,Nat.reduceAdd])|(apply aa.q true;rfl;rfl;rfl;rfl;first|exact True.intro|omega|(simp only[tn,Int.reduceToNat];omega)|(decide))|refine aa.dM (ht) ?_|refine aa.ae (rr) ?_|apply aa.bO|apply aa.lpU|intro _|refine aa.bA ?_)
    all_goals first|exact⟨rfl,rfl⟩|omega
   ·rw[if_neg h2]
    unfold oz
    refine ACalls.en Tryz.func201 Tryz.ntmps201 ?_
    repeat' (first|(apply aa.append;(iterate 11 rfl);(first|rfl|(simp only[List.length_append,List.length_map,List.length_cons,List.length_nil];omega));(first|(simp only[List.length_append,List.length_map,List.length_cons,List.length_nil];omega)|(decide));simp only[List.set_cons_zero,List.set_cons_succ])|(apply aa.fS;(iterate 10 rfl);(first|(simp only[List.length_append,List.length_map,List.length_cons,List.length_nil];omega)|(decide));simp only[List.nil_append,List.cons_append,List.length_nil,List.length_cons,Nat.reduceAdd])|(apply aa.q true;rfl;rfl;rfl;rfl;first|exact True.intro|omega|(simp only[tn,Int.reduceToNat];omega)|(decide))|refine aa.dM (ht) ?_|refine aa.ae (rr) ?_|apply aa.bO|apply aa.lpU|intro _|refine aa.bA ?_)
    all_goals first|exact⟨rfl,rfl⟩|omega
 ·simp only[if_neg h0]at ht ⊢
  unfold oz
  simp only[if_neg h0]
  cases b
  ·simp only[Bool.false_eq_true,if_false]at ht
   refine ACalls.en Tryz.func201 Tryz.ntmps201 ?_
   repeat' (first|(apply aa.append;(iterate 11 rfl);(first|rfl|(simp only[List.length_append,List.length_map,List.length_cons,List.length_nil];omega));(first|(simp only[List.length_append,List.length_map,List.length_cons,List.length_nil];omega)|(decide));simp only[List.set_cons_zero,List.set_cons_succ])|(apply aa.fS;(iterate 10 rfl);(first|(simp only[List.length_append,List.length_map,List.length_cons,List.length_nil];omega)|(decide));simp only[List.nil_append,List.cons_append,List.length_nil,List.length_cons,Nat.reduceAdd])|(apply aa.q true;rfl;rfl;rfl;rfl;first|exact True.intro|omega|(simp only[tn,Int.reduceToNat];omega)|(decide))|refine aa.dM (ht) ?_|refine aa.ae (rr) ?_|apply aa.bO|apply aa.lpU|intro _|refine aa.bA ?_)
   all_goals first|exact⟨rfl,rfl⟩|omega
  ·simp only[if_true]at ht
   refine ACalls.en Tryz.func201 Tryz.ntmps201 ?_
   repeat' (first|(apply aa.append;(iterate 11 rfl);(first|rfl|(simp only[List.length_append,List.length_map,List.length_cons,List.length_nil];omega));(first|(simp only[List.length_append,List.length_map,List.length_cons,List.length_nil];omega)|(decide));simp only[List.set_cons_zero,List.set_cons_succ])|(apply aa.fS;(iterate 10 rfl);(first|(simp only[List.length_append,List.length_map,List.length_cons,List.length_nil];omega)|(decide));simp only[List.nil_append,List.cons_append,List.length_nil,List.length_cons,Nat.reduceAdd])|(apply aa.q true;rfl;rfl;rfl;rfl;first|exact True.intro|omega|(simp only[tn,Int.reduceToNat];omega)|(decide))|refine aa.dM (ht) ?_|refine aa.ae (rr) ?_|apply aa.bO|apply aa.lpU|intro _|refine aa.bA ?_)
   all_goals first|exact⟨rfl,rfl⟩|omega
end Mb
namespace Mb
open Go Bt Px
attribute [local irreducible] aa ACalls
variable {gl:List (Nat×List D)}
attribute [local irreducible] mbX af oz eO lc aC cn
end Mb
end Go.Proofs.YtbpednchkndocaaGreatDoor.Av
