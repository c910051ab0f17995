/- mcbpc: the reference's Take. The laws of mcbpc. -/
import Derived.Test.YtbpednchkndocaaGreatDoorPy7
set_option linter.unusedVariables false
set_option linter.unusedSimpArgs false
set_option maxRecDepth 100000
set_option maxHeartbeats 64000000
namespace Go.Proofs.YtbpednchkndocaaGreatDoor.Av
namespace Mb
open Go Bt Px
attribute [local irreducible] aa ACalls
variable {gl:List (Nat×List D)}
theorem BL (b:Bool):∀r∈iF b,r.length≤24:=by unfold iF;cases b<;>decide +kernel
theorem zY (b:Bool):iF b=if b=true then wdI.flatten else wdJ.flatten:=by unfold iF;cases b<;>decide +kernel
abbrev OA (x:Int×Int×Int×Int):AV := .bK [I x.1,I x.2.1,I x.2.2.1,I x.2.2.2]
attribute [local irreducible] mbX pM
theorem Ee (b:Bool) (L:List UInt8) (p:Nat) (hL:L.length≤1000000) (hp:p≤L.length) :
  ACalls (cxg gl) 201 [S L,I p,B b] [] (fun r H=>r=OA ((mbX b (L.drop p)).1,(mbX b (L.drop p)).2.1,((pM p (mbX b (L.drop p)):Nat):Int),(mbX b (L.drop p)).2.2.1)∧H=[]):=by
 have rr:=FU (gl:=gl) b
 have ht:=tz (gl:=gl) (iF b) L p (by rw[nN];split<;>decide) hL (by omega)
 rw[rA (iF b) L p (BL b) hp]at ht
 have he:=uD (iF b) (L.drop p) []
 have hb:=iR (iF b) (L.drop p) []
 rw[nN]at hb
 unfold mbX
 generalize cV (iF b) (L.drop p) []=y at *
 obtain⟨i,e,c⟩:=y
 simp only at he hb ht ⊢
 rw[zY]at ht
 unfold bE at ht rr
 unfold xY at rr
 unfold oU at ht
 by_cases h0:e=0
 ·have hb':=hb h0
  subst h0
  simp only[if_true]at ht ⊢
  cases b
  ·simp only[Bool.false_eq_true,if_false]at ht hb' ⊢
   by_cases h2:(i+12) / 4=2
   ·rw[if_pos h2]
    unfold pM
    refine ACalls.en Tryz.func201 Tryz.ntmps201 ?_
    repeat' (first|refine aa.aD ?_|(apply aa.append;(iterate 11 rfl);(first|rfl|(simp only[List.length_append,List.length_map,List.length_cons,List.length_nil];omega));(first|(simp only[List.length_append,List.length_map,List.length_cons,List.length_nil];omega)|(decide));simp only[List.set_cons_zero,List.set_cons_succ])|(apply aa.gW;(iterate 10 rfl);(first|(simp only[List.length_append,List.length_map,List.length_cons,List.length_nil];omega)|(decide));simp only[List.nil_append,List.cons_append,List.length_nil,List.length_cons,Nat.reduceAdd])|(apply aa.q true;rfl;rfl;rfl;rfl;first|exact True.intro|omega|(simp only[tn,Int.reduceToNat];omega)|(decide))|refine aa.eQ (ht) ?_|refine aa.ah (rr) ?_|refine aa.aW ?_|refine aa.ae ?_|refine aa.af ?_|refine aa.au ?_|refine aa.ai ?_|refine aa.aK ?_|refine aa.aF ?_|apply aa.cK|apply aa.lpU|intro _|refine aa.av ?_)
    all_goals first|exact⟨rfl,rfl⟩|omega
   ·rw[if_neg h2]
    unfold pM
    refine ACalls.en Tryz.func201 Tryz.ntmps201 ?_
    repeat' (first|refine aa.aD ?_|(apply aa.append;(iterate 11 rfl);(first|rfl|(simp only[List.length_append,List.length_map,List.length_cons,List.length_nil];omega));(first|(simp only[List.length_append,List.length_map,List.length_cons,List.length_nil];omega)|(decide));simp only[List.set_cons_zero,List.set_cons_succ])|(apply aa.gW;(iterate 10 rfl);(first|(simp only[List.length_append,List.length_map,List.length_cons,List.length_nil];omega)|(decide));simp only[List.nil_append,List.cons_append,List.length_nil,List.length_cons,Nat.reduceAdd])|(apply aa.q true;rfl;rfl;rfl;rfl;first|exact True.intro|omega|(simp only[tn,Int.reduceToNat];omega)|(decide))|refine aa.eQ (ht) ?_|refine aa.ah (rr) ?_|refine aa.aW ?_|refine aa.ae ?_|refine aa.af ?_|refine aa.au ?_|refine aa.ai ?_|refine aa.aK ?_|refine aa.aF ?_|apply aa.cK|apply aa.lpU|intro _|refine aa.av ?_)
    all_goals first|exact⟨rfl,rfl⟩|omega
  ·simp only[if_true,Int.add_zero]at ht hb' ⊢
   by_cases h2:i / 4=2
   ·rw[if_pos h2]
    unfold pM
    refine ACalls.en Tryz.func201 Tryz.ntmps201 ?_
    repeat' (first|refine aa.aD ?_|(apply aa.append;(iterate 11 rfl);(first|rfl|(simp only[List.length_append,List.length_map,List.length_cons,List.length_nil];omega));(first|(simp only[List.length_append,List.length_map,List.length_cons,List.length_nil];omega)|(decide));simp only[List.set_cons_zero,List.set_cons_succ])|(apply aa.gW;(iterate 10 rfl);(first|(simp only[List.length_append,List.length_map,List.length_cons,List.length_nil];omega)|(decide));simp only[List.nil_append,List.cons_append,List.length_nil,List.length_cons,Nat.reduceAdd])|(apply aa.q true;rfl;rfl;rfl;rfl;first|exact True.intro|omega|(simp only[tn,Int.reduceToNat];omega)|(decide))|refine aa.eQ (ht) ?_|refine aa.ah (rr) ?_|refine aa.aW ?_|refine aa.ae ?_|refine aa.af ?_|refine aa.au ?_|refine aa.ai ?_|refine aa.aK ?_|refine aa.aF ?_|apply aa.cK|apply aa.lpU|intro _|refine aa.av ?_)
    all_goals first|exact⟨rfl,rfl⟩|omega
   ·rw[if_neg h2]
    unfold pM
    refine ACalls.en Tryz.func201 Tryz.ntmps201 ?_
    repeat' (first|refine aa.aD ?_|(apply aa.append;(iterate 11 rfl);(first|rfl|(simp only[List.length_append,List.length_map,List.length_cons,List.length_nil];omega));(first|(simp only[List.length_append,List.length_map,List.length_cons,List.length_nil];omega)|(decide));simp only[List.set_cons_zero,List.set_cons_succ])|(apply aa.gW;(iterate 10 rfl);(first|(simp only[List.length_append,List.length_map,List.length_cons,List.length_nil];omega)|(decide));simp only[List.nil_append,List.cons_append,List.length_nil,List.length_cons,Nat.reduceAdd])|(apply aa.q true;rfl;rfl;rfl;rfl;first|exact True.intro|omega|(simp only[tn,Int.reduceToNat];omega)|(decide))|refine aa.eQ (ht) ?_|refine aa.ah (rr) ?_|refine aa.aW ?_|refine aa.ae ?_|refine aa.af ?_|refine aa.au ?_|refine aa.ai ?_|refine aa.aK ?_|refine aa.aF ?_|apply aa.cK|apply aa.lpU|intro _|refine aa.av ?_)
    all_goals first|exact⟨rfl,rfl⟩|omega
 ·simp only[if_neg h0]at ht ⊢
  unfold pM
  simp only[if_neg h0]
  cases b
  ·simp only[Bool.false_eq_true,if_false]at ht
   refine ACalls.en Tryz.func201 Tryz.ntmps201 ?_
   repeat' (first|refine aa.aD ?_|(apply aa.append;(iterate 11 rfl);(first|rfl|(simp only[List.length_append,List.length_map,List.length_cons,List.length_nil];omega));(first|(simp only[List.length_append,List.length_map,List.length_cons,List.length_nil];omega)|(decide));simp only[List.set_cons_zero,List.set_cons_succ])|(apply aa.gW;(iterate 10 rfl);(first|(simp only[List.length_append,List.length_map,List.length_cons,List.length_nil];omega)|(decide));simp only[List.nil_append,List.cons_append,List.length_nil,List.length_cons,Nat.reduceAdd])|(apply aa.q true;rfl;rfl;rfl;rfl;first|exact True.intro|omega|(simp only[tn,Int.reduceToNat];omega)|(decide))|refine aa.eQ (ht) ?_|refine aa.ah (rr) ?_|refine aa.aW ?_|refine aa.ae ?_|refine aa.af ?_|refine aa.au ?_|refine aa.ai ?_|refine aa.aK ?_|refine aa.aF ?_|apply aa.cK|apply aa.lpU|intro _|refine aa.av ?_)
   all_goals first|exact⟨rfl,rfl⟩|omega
  ·simp only[if_true]at ht
   refine ACalls.en Tryz.func201 Tryz.ntmps201 ?_
   repeat' (first|refine aa.aD ?_|(apply aa.append;(iterate 11 rfl);(first|rfl|(simp only[List.length_append,List.length_map,List.length_cons,List.length_nil];omega));(first|(simp only[List.length_append,List.length_map,List.length_cons,List.length_nil];omega)|(decide));simp only[List.set_cons_zero,List.set_cons_succ])|(apply aa.gW;(iterate 10 rfl);(first|(simp only[List.length_append,List.length_map,List.length_cons,List.length_nil];omega)|(decide));simp only[List.nil_append,List.cons_append,List.length_nil,List.length_cons,Nat.reduceAdd])|(apply aa.q true;rfl;rfl;rfl;rfl;first|exact True.intro|omega|(simp only[tn,Int.reduceToNat];omega)|(decide))|refine aa.eQ (ht) ?_|refine aa.ah (rr) ?_|refine aa.aW ?_|refine aa.ae ?_|refine aa.af ?_|refine aa.au ?_|refine aa.ai ?_|refine aa.aK ?_|refine aa.aF ?_|apply aa.cK|apply aa.lpU|intro _|refine aa.av ?_)
   all_goals first|exact⟨rfl,rfl⟩|omega
end Mb
namespace Mb
open Go Bt Px
attribute [local irreducible] aa ACalls
variable {gl:List (Nat×List D)}
attribute [local irreducible] mbX ak pM fT l9 aS dx
end Mb
end Go.Proofs.YtbpednchkndocaaGreatDoor.Av
