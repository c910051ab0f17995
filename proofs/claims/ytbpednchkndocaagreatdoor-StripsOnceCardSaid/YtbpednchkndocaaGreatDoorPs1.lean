/- Formats: how wide, how high, how many cells, rows and lines. Marks, heads of rows; how many cells. Heads of sheets: which may be. Heads of sheets: written. Heads of sheets that may not be: nothing is written. -/
import Derived.Test.YtbpednchkndocaaGreatDoorPw
set_option linter.unusedVariables false
set_option linter.unusedSimpArgs false
set_option maxRecDepth 100000
set_option maxHeartbeats 64000000
namespace Go.Proofs.YtbpednchkndocaaGreatDoor.Av
namespace Sh
open Go Bt
attribute [local irreducible] aa ACalls
variable {gl:List (Nat×List D)}
def fW(f:Int):Int:=if f=1 then 128 else if f=2 then 176 else if f=3 then 352 else if f=4 then 704 else if f=5 then 1408 else if f=6 then 32 else 0
def fH(f:Int):Int:=if f=1 then 96 else if f=2 then 144 else if f=3 then 288 else if f=4 then 576 else if f=5 then 1152 else if f=6 then 32 else 0
def fR(f:Int):Int:=if f=1 then 6 else if f=2 then 9 else if f=3 then 18 else if f=4 then 18 else if f=5 then 18 else if f=6 then 2 else 0
def fL(f:Int):Int:=if f=1 then 1 else if f=2 then 1 else if f=3 then 1 else if f=4 then 2 else if f=5 then 4 else if f=6 then 1 else 0
def fOk(f:Int):Bool:=decide (1≤f∧f≤6)
abbrev fA(f:Int):Int:=fW f/16
abbrev fD(f:Int):Int:=fH f/16
theorem Qk(f:Int):f=1∨f=2∨f=3∨f=4∨f=5∨f=6∨¬(1≤f∧f≤6):=by omega
theorem Qn{f:Int}(h:¬(1≤f∧f≤6)):fW f=0∧fH f=0∧fR f=0∧fL f=0∧fOk f=false:=by
 refine⟨?_,?_,?_,?_,decide_eq_false h⟩;all_goals
  first|unfold fW|unfold fH|unfold fR|unfold fL
  rw[if_neg (by omega),if_neg (by omega),if_neg (by omega),if_neg (by omega),if_neg (by omega),if_neg (by omega)]
theorem zR(f:Int):ACalls (cxg gl) 145 [I f] [] (fun r H=>r = .cH [I (fW f),I (fH f),B (fOk f)]∧H=[]):=by
 rcases Qk f with rfl|rfl|rfl|rfl|rfl|rfl|h
 rotate_right
 ·obtain⟨e1,e2,e3,e4,e5⟩:=Qn h;rw[e1,e2,e5];refine ACalls.en Tryz.func145 Tryz.ntmps145 ?_;repeat' (first|refine aa.aF ?_|refine aa.bh true ?_|refine aa.ah ?_|refine aa.ae ?_|intro _|refine aa.aA ?_)
  all_goals exact Tn
 all_goals
  refine ACalls.en Tryz.func145 Tryz.ntmps145 ?_;repeat' (first|refine aa.aF ?_|refine aa.bh true ?_|refine aa.ah ?_|refine aa.ae ?_|intro _|refine aa.aA ?_)
  all_goals exact Tp
theorem jM(f:Int):ACalls (cxg gl) 79 [I f] [] (fun r H=>r = .cH [I (fA f),I (fD f)]∧H=[]):=by
 have hs:=zR (gl:=gl) f;have hw:0≤fW f∧fW f≤1408:=by unfold fW;split<;>(try split)<;>(try split)<;>(try split)<;>(try split)<;>(try split)<;>decide
 have hh:0≤fH f∧fH f≤1408:=by unfold fH;split<;>(try split)<;>(try split)<;>(try split)<;>(try split)<;>(try split)<;>decide
 refine ACalls.en Tryz.func79 Tryz.ntmps79 ?_;repeat' (first|refine aa.aF ?_|refine aa.bh true ?_|refine aa.av (hs) ?_|intro _|refine aa.aA ?_)
 all_goals exact Tp
theorem rH(f:Int):ACalls (cxg gl) 70 [I f] [] (fun r H=>r = .cH [I (fR f),I (fL f)]∧H=[]):=by
 rcases Qk f with rfl|rfl|rfl|rfl|rfl|rfl|h
 ·have hs:ACalls (cxg gl) 79 [I 1] [] (fun r H=>r = .cH [I 8,I 6]∧H=[]):=jM 1;refine ACalls.en Tryz.func70 Tryz.ntmps70 ?_;repeat' (first|refine aa.aF ?_|refine aa.bh true ?_|refine aa.av (hs) ?_|refine aa.ah ?_|refine aa.ae ?_|intro _|refine aa.aA ?_)
  all_goals exact Tp
 ·have hs:ACalls (cxg gl) 79 [I 2] [] (fun r H=>r = .cH [I 11,I 9]∧H=[]):=jM 2;refine ACalls.en Tryz.func70 Tryz.ntmps70 ?_;repeat' (first|refine aa.aF ?_|refine aa.bh true ?_|refine aa.av (hs) ?_|refine aa.ah ?_|refine aa.ae ?_|intro _|refine aa.aA ?_)
  all_goals exact Tp
 ·have hs:ACalls (cxg gl) 79 [I 3] [] (fun r H=>r = .cH [I 22,I 18]∧H=[]):=jM 3;refine ACalls.en Tryz.func70 Tryz.ntmps70 ?_;repeat' (first|refine aa.aF ?_|refine aa.bh true ?_|refine aa.av (hs) ?_|refine aa.ah ?_|refine aa.ae ?_|intro _|refine aa.aA ?_)
  all_goals exact Tp
 ·have hs:ACalls (cxg gl) 79 [I 4] [] (fun r H=>r = .cH [I 44,I 36]∧H=[]):=jM 4;refine ACalls.en Tryz.func70 Tryz.ntmps70 ?_;repeat' (first|refine aa.aF ?_|refine aa.bh true ?_|refine aa.av (hs) ?_|refine aa.ah ?_|refine aa.ae ?_|intro _|refine aa.aA ?_)
  all_goals exact Tp
 ·have hs:ACalls (cxg gl) 79 [I 5] [] (fun r H=>r = .cH [I 88,I 72]∧H=[]):=jM 5;refine ACalls.en Tryz.func70 Tryz.ntmps70 ?_;repeat' (first|refine aa.aF ?_|refine aa.bh true ?_|refine aa.av (hs) ?_|refine aa.ah ?_|refine aa.ae ?_|intro _|refine aa.aA ?_)
  all_goals exact Tp
 ·have hs:ACalls (cxg gl) 79 [I 6] [] (fun r H=>r = .cH [I 2,I 2]∧H=[]):=jM 6;refine ACalls.en Tryz.func70 Tryz.ntmps70 ?_;repeat' (first|refine aa.aF ?_|refine aa.bh true ?_|refine aa.av (hs) ?_|refine aa.ah ?_|refine aa.ae ?_|intro _|refine aa.aA ?_)
  all_goals exact Tp
 ·have hs:=jM (gl:=gl) f;obtain⟨e1,e2,e3,e4,e5⟩:=Qn h;unfold fA fD at hs;rw[e1,e2]at hs;rw[e3,e4];refine ACalls.en Tryz.func70 Tryz.ntmps70 ?_;repeat' (first|refine aa.aF ?_|refine aa.bh true ?_|refine aa.av (hs) ?_|refine aa.ah ?_|refine aa.ae ?_|intro _|refine aa.aA ?_)
  all_goals exact Tn
end Sh
namespace Sh
open Go Bt Wr
attribute [local irreducible] aa ACalls
variable {gl:List (Nat×List D)}
def zs(n:Nat):List UInt8:=List.replicate n 48
theorem Jw(w:List UInt8):bE (dC w).length=0:=by
 have h1:=mq w;obtain⟨p1,p2⟩:=jK w.length;unfold bE at *;omega
theorem sO(w:List UInt8):dC (dC w)=dC w:=by
 have h:=Jw w;rw[show dC (dC w)=dC w++List.replicate (bE (dC w).length) 48 from rfl,h];simp
theorem He(w:List UInt8):bJ (dC w)=bJ w:=by
 unfold bJ;rw[sO]
attribute [local irreducible] bI bJ dC
theorem ES(w:List UInt8)(hl:w.length≤100000000):ACalls (cxg gl) 84 [.ptr 0 0] (WO w) (fun r H=>r=I (bE w.length)∧H=WO (dC w)):=by
 have h1:=mq w;obtain⟨p1,p2⟩:=jK w.length;have e1:(8-(w.length:Int)%8)%8=(bE w.length:Int):=by unfold bE;omega
 unfold WO;rw[He];refine ACalls.en Tryz.func84 Tryz.ntmps84 ?_;repeat' (first|refine aa.aF ?_|refine aa.bh true ?_|refine aa.ak ?_|refine aa.aD ?_|intro _|refine aa.aA ?_)
 all_goals first|exact⟨congrArg I e1,by rw[e1,h1];rfl⟩|exact⟨congrArg I e1,by rw[e1,h1,Int.natCast_add]⟩
def gK(n:Int):List UInt8:=[48,48,48,48,48,48,48,48,48,48,48,48,48,48,48,48,49]++bU n 5 5
theorem RP:∀k:_root_.Fin 32,bU ((((32:Int).toNat |||((k.val:Nat):Int).toNat:Nat)):Int) 22 22=gK ((k.val:Nat):Int)∧(32:Int).toNat |||((k.val:Nat):Int).toNat<2^22:=by decide +kernel
theorem RN(n:Int)(h:0≤n∧n≤31):bU ((((32:Int).toNat |||n.toNat:Nat)):Int) 22 22=gK n∧(32:Int).toNat |||n.toNat<2^22:=by
 have h1:=RP ⟨n.toNat,by omega⟩;have h2:((n.toNat:Nat):Int)=n:=by omega
 simp only[h2]at h1;exact h1
theorem Aw(n:Int):(gK n).all bB=true:=by unfold gK;rw[List.all_append,jH];rfl
theorem lJ(n:Int):(gK n).length=22:=by unfold gK;rw[List.length_append,bV];rfl
attribute [local irreducible] gK bU
theorem Ei(w:List UInt8)(n:Int)(hd:w.all bB=true)(hl:w.length≤30000000)(hn:0≤n∧n≤31):
  ACalls (cxg gl) 120 [.ptr 0 0,I n] (WO w) (fun r H=>r=I 0∧H=WO (dC w++gK n)):=by
 have hf:=ES (gl:=gl) w (by omega);obtain⟨e1,e2⟩:=RN n hn;have h1:=mq w;obtain⟨p1,p2⟩:=jK w.length;have hp:=ul (gl:=gl) (dC w) ((((32:Int).toNat |||n.toNat:Nat)):Int) 22 (sP w hd) (by omega) (by omega) ⟨by omega,by omega⟩;rw[e1]at hp;refine ACalls.en Tryz.func120 Tryz.ntmps120 ?_;repeat' (first|refine aa.aF ?_|refine aa.bh true ?_|refine aa.aj [0,1] (hf) ?_|refine aa.aj [0,1] (hp) ?_|refine aa.ae ?_|refine aa.au ?_|refine aa.bg ?_|intro _|refine aa.aA ?_)
 all_goals exact Tn
def nO(n id q:Int):List UInt8:=gK n++(bU id 2 2++bU q 5 5)
theorem MF(w:List UInt8)(n id q:Int)(hd:w.all bB=true)(hl:w.length≤20000000)(hn:1≤n∧n≤17)(hi:0≤id∧id≤3)(hq:1≤q∧q≤31):
  ACalls (cxg gl) 83 [.ptr 0 0,I n,I id,I q] (WO w) (fun r H=>r=I 0∧H=WO (dC w++nO n id q)):=by
 have hm:=Ei (gl:=gl) w n hd (by omega) (by omega);have h1:=mq w;obtain⟨p1,p2⟩:=jK w.length;have k1:=lJ n;have k2:=bV id 2 2;have hd1:(dC w++gK n).all bB=true:=by rw[List.all_append,sP w hd,Aw];rfl
 have hd2:(dC w++gK n++bU id 2 2).all bB=true:=by rw[List.all_append,hd1,jH];rfl
 have hp1:=ul (gl:=gl) (dC w++gK n) id 2 hd1 (by rw[List.length_append];omega) (by omega) (by omega);have hp2:=ul (gl:=gl) (dC w++gK n++bU id 2 2) q 5 hd2 (by rw[List.length_append,List.length_append];omega) (by omega) (by omega);refine ACalls.en Tryz.func83 Tryz.ntmps83 ?_;repeat' (first|refine aa.aF ?_|refine aa.bh true ?_|refine aa.aj [0,1] (hm) ?_|refine aa.aj [0,1] (hp1) ?_|refine aa.aj [0,1] (hp2) ?_|refine aa.ae ?_|refine aa.ak ?_|intro _|refine aa.aA ?_)
 all_goals first|exact⟨rfl,by unfold nO;rw[List.append_assoc,List.append_assoc];rfl⟩|omega
attribute [local irreducible] zs
theorem Sb(f:Int):0≤fW f∧fW f≤1408:=by unfold fW;split<;>(try split)<;>(try split)<;>(try split)<;>(try split)<;>(try split)<;>decide
theorem Sg(f:Int):0≤fH f∧fH f≤1408:=by unfold fH;split<;>(try split)<;>(try split)<;>(try split)<;>(try split)<;>(try split)<;>decide
end Sh
namespace Sh
open Go Bt Wr
attribute [local irreducible] aa ACalls
variable {gl:List (Nat×List D)}
structure Hd where
 ref:Int
 flags:Int
 fmt:Int
 inter:Bool
 quant:Int
 supp:List Int
abbrev Nn(n:Int):D := .int .i64 n
def suD(l:List Int):List D:=l.map Nn
theorem oC(l:List Int):(suD l).length=l.length:=by simp[suD]
theorem E5(l:List Int)(k:Nat)(v:Int)(h:l[k]?=some v):((suD l).getD (k:Int).toNat .top).cells[0]?=some (Nn v):=by
 simp[suD,List.getD_eq_getElem?_getD,h,D.cells]
abbrev shD(h:Hd)(rs:List D)(z:Int):D := .agg [Nn h.ref,Nn h.flags,Nn h.fmt, .bool h.inter,Nn h.quant, .sl 1 (suD h.supp), .sl 4 rs,Nn z]
def okB(v:Int):Bool:=decide (0≤v∧v≤255)
def vB(h:Hd):Prop:=fOk h.fmt=true∧(0≤h.ref∧h.ref≤255)∧(0≤h.flags∧h.flags≤7)∧(1≤h.quant∧h.quant≤31)∧h.supp.length≤8
instance (h:Hd):Decidable (vB h):=by unfold vB;infer_instance
def nu(h:Hd):Bool:=decide (vB h)&&h.supp.all okB
attribute [local irreducible] suD
theorem vcs(q:Bool)(v:Int):q=false∨(q=true∧(v<0∨(0≤v∧(255<v∨v≤255)))):=by
 cases q
 ·exact .inl rfl
 ·exact .inr ⟨rfl,by omega⟩
theorem SK{p:Prop}[Decidable p]{b:Bool}(h:b=true)(hp:p):(true&&decide p)=b:=by rw[h,decide_eq_true hp];rfl
theorem SL{p:Prop}[Decidable p]{b:Bool}(h:b=false)(hp:¬p):(true&&decide p)=b:=by rw[h,decide_eq_false hp];rfl
theorem IA(l:List Int)(k:Nat)(v:Int)(h:l[k]?=some v):(l.take (k+1)).all okB=((l.take k).all okB&&okB v):=by
 rw[List.take_add_one,h,List.all_append];simp
theorem OU(h:Hd)(rs:List D)(z:Int)(hl:h.supp.length≤100):ACalls (cxg gl) 142 [.d (shD h rs z)] [] (fun r H=>r=B (nu h)∧H=[]):=by
 have hs:=zR (gl:=gl) h.fmt;have hn:=oC h.supp;have key:∃b,b=decide (vB h):=⟨_,rfl⟩;obtain⟨b,hb⟩:=key;unfold nu;rw[←hb];have cs:(b=true∧vB h)∨(b=false∧(fOk h.fmt=false∨(fOk h.fmt=true∧(h.ref<0∨(0≤h.ref∧(255<h.ref∨(h.ref≤255∧(h.flags<0∨(0≤h.flags∧(7<h.flags∨(h.flags≤7∧(h.quant<1∨(1≤h.quant∧(31<h.quant∨(h.quant≤31∧8<h.supp.length))))))))))))))):=by
  by_cases hp:vB h
  ·exact .inl ⟨by rw[hb,decide_eq_true hp],hp⟩
  ·refine .inr ⟨by rw[hb,decide_eq_false hp],?_⟩;unfold vB at hp;cases hf:fOk h.fmt with
   |false=>exact .inl rfl
   |true =>
    rw[hf]at hp;refine .inr ⟨rfl,?_⟩;simp only[true_and]at hp;omega
 clear hb;rcases cs with⟨hbt,hf,h1,h2,h3,h4⟩|⟨hbt,hf|⟨hf,h1|⟨h1,h2|⟨h2,h3|⟨h3,h4|⟨h4,h5|⟨h5,h6|⟨h6,h7⟩⟩⟩⟩⟩⟩⟩⟩;all_goals rw[hf]at hs
 all_goals
  refine ACalls.en Tryz.func142 Tryz.ntmps142 ?_;repeat (first|refine aa.aF ?_|refine aa.q'd true ?_|refine aa.av (hs) ?_|refine aa.ah ?_|refine aa.ae ?_|refine aa.aM ?_|refine aa.au ?_|refine aa.cf ?_|refine aa.bg ?_|refine aa.aC ?_)
  refine aa.weak (env':=[(55,I ((0:Nat):Int)),(54,I ((suD h.supp).length:Int)),(53, .d (.sl 1 (suD h.supp))),(5,B b)]) (by
   first
    |exact⟨rfl,rfl,rfl,congrArg B hbt.symm,trivial⟩
    |exact⟨rfl,rfl,rfl,congrArg B (SK hbt (by rw[hn];omega)),trivial⟩
    |exact⟨rfl,rfl,rfl,congrArg B (SL hbt (by rw[hn];omega)),trivial⟩) ?_
  clear hbt;refine aa.loop (fun m env H=>∃(k:Nat) (q:Bool),m=h.supp.length-k∧k≤h.supp.length∧(b&&(h.supp.take k).all okB)=q∧env=[(55,I (k:Int)),(54,I ((suD h.supp).length:Int)),(53, .d (.sl 1 (suD h.supp))),(5,B q)]∧H=[.cells [.d (Nn h.ref), .d (Nn h.flags), .d (Nn h.fmt), .d (.bool h.inter), .d (Nn h.quant), .d (.sl 1 (suD h.supp)), .d (.sl 4 rs), .d (Nn z)]]) h.supp.length
   ⟨0,b,rfl,by omega,by simp,rfl,rfl⟩ ?_
  rintro m env H ⟨k,q,rfl,hk,hq,rfl,rfl⟩;rcases Nat.lt_or_ge k h.supp.length with hlt|hge
  ·obtain⟨v,hv⟩:∃v,h.supp[k]?=some v:=⟨_,List.getElem?_eq_getElem hlt⟩;have g1:=E5 h.supp k v hv;have ht:=IA h.supp k v hv;have hq':(b&&(h.supp.take (k+1)).all okB)=(q&&okB v):=by rw[ht,←hq,Bool.and_assoc]
   have vs:q=false∨(q=true∧(v<0∨(0≤v∧(255<v∨v≤255)))):=vcs q v;rcases vs with rfl|⟨rfl,v1|⟨v1,v2|v2⟩⟩
   ·repeat' (first|refine aa.aF ?_|refine aa.q'd true ?_|refine aa.ah ?_|refine aa.ae ?_|refine aa.aM ?_|refine aa.au ?_|refine aa.cf ?_|refine aa.bg ?_|refine aa.aC ?_|(apply aa.jD;(iterate 7 rfl);exact g1)|intro _|refine aa.aA ?_|refine aa.aJ ?_)
    all_goals exact aa.round [(55,I ((k+1:Nat):Int)),(54,I ((suD h.supp).length:Int)),(53, .d (.sl 1 (suD h.supp))),(5,B false)] (h.supp.length-(k+1)) (by omega) ⟨rfl,rfl,rfl,rfl,trivial⟩ ⟨k+1,false,rfl,hlt,hq',rfl,rfl⟩
   all_goals have hv2:okB v=decide (0≤v∧v≤255):=rfl
   ·rw[decide_eq_false (by omega)]at hv2;rw[hv2]at hq';repeat' (first|refine aa.aF ?_|refine aa.q'd true ?_|refine aa.ah ?_|refine aa.ae ?_|refine aa.aM ?_|refine aa.au ?_|refine aa.cf ?_|refine aa.bg ?_|refine aa.aC ?_|(apply aa.jD;(iterate 7 rfl);exact g1)|intro _|refine aa.aA ?_|refine aa.aJ ?_)
    all_goals exact aa.round [(55,I ((k+1:Nat):Int)),(54,I ((suD h.supp).length:Int)),(53, .d (.sl 1 (suD h.supp))),(5,B false)] (h.supp.length-(k+1)) (by omega) ⟨rfl,rfl,rfl,rfl,trivial⟩ ⟨k+1,false,rfl,hlt,hq',rfl,rfl⟩
   ·rw[decide_eq_false (by omega)]at hv2;rw[hv2]at hq';repeat' (first|refine aa.aF ?_|refine aa.q'd true ?_|refine aa.ah ?_|refine aa.ae ?_|refine aa.aM ?_|refine aa.au ?_|refine aa.cf ?_|refine aa.bg ?_|refine aa.aC ?_|(apply aa.jD;(iterate 7 rfl);exact g1)|intro _|refine aa.aA ?_|refine aa.aJ ?_)
    all_goals exact aa.round [(55,I ((k+1:Nat):Int)),(54,I ((suD h.supp).length:Int)),(53, .d (.sl 1 (suD h.supp))),(5,B false)] (h.supp.length-(k+1)) (by omega) ⟨rfl,rfl,rfl,congrArg B (SL rfl (by omega)),trivial⟩ ⟨k+1,false,rfl,hlt,hq',rfl,rfl⟩
   ·rw[decide_eq_true (by omega)]at hv2;rw[hv2]at hq';repeat' (first|refine aa.aF ?_|refine aa.q'd true ?_|refine aa.ah ?_|refine aa.ae ?_|refine aa.aM ?_|refine aa.au ?_|refine aa.cf ?_|refine aa.bg ?_|refine aa.aC ?_|(apply aa.jD;(iterate 7 rfl);exact g1)|intro _|refine aa.aA ?_|refine aa.aJ ?_)
    all_goals exact aa.round [(55,I ((k+1:Nat):Int)),(54,I ((suD h.supp).length:Int)),(53, .d (.sl 1 (suD h.supp))),(5,B true)] (h.supp.length-(k+1)) (by omega) ⟨rfl,rfl,rfl,congrArg B (SK rfl (by omega)),trivial⟩ ⟨k+1,true,rfl,hlt,hq',rfl,rfl⟩
  ·obtain rfl:k=h.supp.length:=by omega
   rw[List.take_length]at hq;rw[hq];repeat' (first|refine aa.aF ?_|refine aa.bh true ?_|refine aa.ah ?_|refine aa.ae ?_|refine aa.aM ?_|refine aa.au ?_|refine aa.cf ?_|refine aa.bg ?_|refine aa.aC ?_|intro _|refine aa.aA ?_|refine aa.aJ ?_)
   all_goals exact Tn
end Sh
namespace Sh
open Go Bt Wr
attribute [local irreducible] aa ACalls
variable {gl:List (Nat×List D)}
def Fi(w:List UInt8)(n:Nat):Prop:=w.all bB=true∧w.length≤n
theorem Fi.app{w v:List UInt8}{n m:Nat}(h:Fi w n)(h2:Fi v m):Fi (w++v) (n+m):=⟨by rw[List.all_append,h.1,h2.1];rfl,by have:=h.2;have:=h2.2;rw[List.length_append];omega⟩
theorem gM(v:Int)(n:Nat):Fi (bU v n n) n:=⟨jH _ _ _,by rw[bV];omega⟩
theorem OX(n:Int):Fi (gK n) 22:=⟨Aw n,by rw[lJ];omega⟩
theorem Qm{w:List UInt8}{n:Nat}(h:Fi w n):Fi (dC w) (n+7):=⟨sP w h.1,by have h1:=mq w;have h2:=jK w.length;have:=h.2;omega⟩
theorem nk{w:List UInt8}{n:Nat}(h:Fi w n)(hn:n≤30000000)(v:Int)(m:Nat)(hm:m≤32)(hv:0≤v∧v<2^m):
  ACalls (cxg gl) 85 [.ptr 0 0,I v,I m] (WO w) (fun r H=>r=I 0∧H=WO (w++bU v m m)):=ul w v m h.1 (by have:=h.2;omega) hm hv
def iM(v:Int):List UInt8:=49::bU v 8 8
def iD(b:Bool):Int:=if b=true then 1 else 0
def fG(h:Hd):List UInt8:=gK 0++bU h.ref 8 8++bU 2 2 2++bU h.flags 3 3++bU h.fmt 3 3++bU (iD h.inter) 1 1++bU 0 4 4++bU h.quant 5 5++bU 0 1 1
def bY(h:Hd):List UInt8:=fG h++h.supp.flatMap iM++bU 0 1 1
theorem Q6:∀k:_root_.Fin 256,bU ((((256:Int).toNat |||((k.val:Nat):Int).toNat:Nat)):Int) 9 9=iM ((k.val:Nat):Int)∧(256:Int).toNat |||((k.val:Nat):Int).toNat<2^9:=by decide +kernel
theorem Q5(n:Int)(h:0≤n∧n≤255):bU ((((256:Int).toNat |||n.toNat:Nat)):Int) 9 9=iM n∧(256:Int).toNat |||n.toNat<2^9:=by
 have h1:=Q6 ⟨n.toNat,by omega⟩;have h2:((n.toNat:Nat):Int)=n:=by omega
 simp only[h2]at h1;exact h1
theorem R9(v:Int):Fi (iM v) 9:=by
 unfold iM;exact⟨by rw[List.all_cons,jH];rfl,by rw[List.length_cons,bV];omega⟩
theorem KE(l:List Int):Fi (l.flatMap iM) (9*l.length):=by
 induction l with
 |nil=>exact⟨rfl,by simp⟩
 |cons v l ih =>
  rw[List.flatMap_cons];have h:=(R9 v).app ih;exact⟨h.1,by have:=h.2;rw[List.length_cons];omega⟩
theorem Sa(h:Hd):Fi (fG h) 49:=((((((((OX 0).app (gM h.ref 8)).app (gM 2 2)).app (gM h.flags 3)).app (gM h.fmt 3)).app (gM (iD h.inter) 1)).app (gM 0 4)).app (gM h.quant 5)).app (gM 0 1)
theorem Iz(l:List Int)(k:Nat)(v:Int)(h:l[k]?=some v):(l.take (k+1)).flatMap iM=(l.take k).flatMap iM++iM v:=by
 rw[List.take_add_one,h,List.flatMap_append];simp
attribute [local irreducible] bI bJ dC gK bU suD iM
theorem nV{h:Hd}(hh:nu h=true):vB h∧∀v∈h.supp,0≤v∧v≤255:=by
 unfold nu at hh;rw[Bool.and_eq_true,decide_eq_true_eq,List.all_eq_true]at hh;exact⟨hh.1,fun v hv=>of_decide_eq_true (hh.2 v hv)⟩
theorem qj{f:Int}(h:fOk f=true):1≤f∧f≤6:=of_decide_eq_true h
theorem DN(h:Hd)(rs:List D)(z:Int)(w:List UInt8)(n:Nat)(hh:nu h=true)(hw:Fi w n)(hn:n≤20000000):
  ACalls (cxg gl) 71 [.ptr 0 0, .d (shD h rs z)] (WO w) (fun r H=>r=I 0∧H=WO (dC w++bY h)):=by
 obtain⟨⟨f0,f1,f2,f3,f4⟩,fs⟩:=nV hh;have f5:=qj f0;have hl:=oC h.supp;have mc:=OU (gl:=gl) h rs z (by omega);rw[hh]at mc;have m0:=Ei (gl:=gl) w 0 hw.1 (by have:=hw.2;omega) (by omega);have w0:=(Qm hw).app (OX 0);have p1:=nk (gl:=gl) w0 (by omega) h.ref 8 (by omega) (by omega);have w1:=w0.app (gM h.ref 8);have p2:=nk (gl:=gl) w1 (by omega) 2 2 (by omega) (by omega);have w2:=w1.app (gM 2 2);have p3:=nk (gl:=gl) w2 (by omega) h.flags 3 (by omega) (by omega);have w3:=w2.app (gM h.flags 3);have p4:=nk (gl:=gl) w3 (by omega) h.fmt 3 (by omega) (by omega);have w4:=w3.app (gM h.fmt 3);have p5:=nk (gl:=gl) w4 (by omega) (iD h.inter) 1 (by omega) (by unfold iD;split<;>decide);have w5:=w4.app (gM (iD h.inter) 1);have p6:=nk (gl:=gl) w5 (by omega) 0 4 (by omega) (by omega);have w6:=w5.app (gM 0 4);have p7:=nk (gl:=gl) w6 (by omega) h.quant 5 (by omega) (by omega);have w7:=w6.app (gM h.quant 5);have p8:=nk (gl:=gl) w7 (by omega) 0 1 (by omega) (by omega);have w8:=w7.app (gM 0 1);have e8:dC w++gK 0++bU h.ref 8 8++bU 2 2 2++bU h.flags 3 3++bU h.fmt 3 3++bU (iD h.inter) 1 1++bU 0 4 4++bU h.quant 5 5++bU 0 1 1=dC w++fG h:=by unfold fG;simp only[List.append_assoc]
 rw[e8]at p8 w8;have e0:dC w++fG h++(h.supp.take 0).flatMap iM=dC w++fG h:=by simp
 have hi:(h.inter=false∧iD h.inter=0)∨(h.inter=true∧iD h.inter=1):=by cases h.inter<;>decide
 rcases hi with⟨hb,hi⟩|⟨hb,hi⟩;all_goals
  rw[hi]at p5 p6 p7 p8;refine ACalls.en Tryz.func71 Tryz.ntmps71 ?_;repeat (first|refine aa.aF ?_|refine aa.q'e true ?_|refine aa.aj [0,1] (m0) ?_|refine aa.aj [0,1] (p1) ?_|refine aa.aj [0,1] (p2) ?_|refine aa.aj [0,1] (p3) ?_|refine aa.aj [0,1] (p4) ?_|refine aa.aj [0,1] (p5) ?_|refine aa.aj [0,1] (p6) ?_|refine aa.aj [0,1] (p7) ?_|refine aa.aj [0,1] (p8) ?_|refine aa.De (mc) ?_|refine aa.ah ?_|refine aa.ae ?_|refine aa.ak ?_|refine aa.aM ?_|(apply aa.cBT;rfl;first|(simp only[bT];omega)|(exact hb))|(apply aa.cBF;rfl;first|(simp only[bF];omega)|exact ndF rfl|(exact hb)))
  refine aa.weak (env':=[(47,I ((0:Nat):Int)),(46,I ((suD h.supp).length:Int)),(45, .d (.sl 1 (suD h.supp))),(0, .ptr 0 0)]) ⟨rfl,rfl,rfl,rfl,trivial⟩ ?_;refine aa.loop (fun m env H=>∃k:Nat,m=h.supp.length-k∧k≤h.supp.length∧env=[(47,I (k:Int)),(46,I ((suD h.supp).length:Int)),(45, .d (.sl 1 (suD h.supp))),(0, .ptr 0 0)]∧H=WO (dC w++fG h++(h.supp.take k).flatMap iM)++[.cells [.d (Nn h.ref), .d (Nn h.flags), .d (Nn h.fmt), .d (.bool h.inter), .d (Nn h.quant), .d (.sl 1 (suD h.supp)), .d (.sl 4 rs), .d (Nn z)]]) h.supp.length
   ⟨0,rfl,by omega,rfl,by rw[e0];rfl⟩ ?_
  rintro m env H ⟨k,rfl,hk,rfl,rfl⟩;have wk:=w8.app (KE (h.supp.take k));have hkl:(h.supp.take k).length≤8:=by rw[List.length_take];omega
  rcases Nat.lt_or_ge k h.supp.length with hlt|hge
  ·obtain⟨v,hv⟩:∃v,h.supp[k]?=some v:=⟨_,List.getElem?_eq_getElem hlt⟩;have g1:=E5 h.supp k v hv;have hvb:=fs v (List.mem_of_getElem? hv);obtain⟨o1,o2⟩:=Q5 v hvb;have pk:=nk (gl:=gl) wk (by omega) ((((256:Int).toNat |||v.toNat:Nat)):Int) 9 (by omega) ⟨by omega,by omega⟩;rw[o1,List.append_assoc (dC w++fG h),←Iz h.supp k v hv]at pk;repeat' (first|refine aa.aF ?_|refine aa.q'e true ?_|refine aa.aj [0,1] (pk) ?_|refine aa.ah ?_|refine aa.ae ?_|refine aa.ak ?_|refine aa.aM ?_|refine aa.aQ ?_|refine aa.bX ?_|(apply aa.jD;(iterate 7 rfl);exact g1)|intro _|refine aa.aA ?_|refine aa.aJ ?_)
   all_goals first
    |exact aa.round [(47,I (((k+1:Nat)):Int)),(46,I ((suD h.supp).length:Int)),(45, .d (.sl 1 (suD h.supp))),(0, .ptr 0 0)] (h.supp.length-(k+1)) (by omega) ⟨rfl,rfl,rfl,rfl,trivial⟩ ⟨k+1,rfl,hlt,rfl,rfl⟩
    |omega
  ·obtain rfl:k=h.supp.length:=by omega
   have pk:=nk (gl:=gl) wk (by omega) 0 1 (by omega) (by omega);have ef:dC w++fG h++(h.supp.take h.supp.length).flatMap iM++bU 0 1 1=dC w++bY h:=by unfold bY;rw[List.take_length];simp only[List.append_assoc]
   rw[ef]at pk;repeat' (first|refine aa.aF ?_|refine aa.bh true ?_|refine aa.aj [0,1] (pk) ?_|refine aa.ah ?_|refine aa.ae ?_|refine aa.ak ?_|refine aa.aM ?_|refine aa.aQ ?_|refine aa.bX ?_|intro _|refine aa.aA ?_|refine aa.aJ ?_)
   all_goals exact Tn
end Sh
namespace Sh
open Go Bt Wr
attribute [local irreducible] aa ACalls
variable {gl:List (Nat×List D)}
attribute [local irreducible] bI bJ dC suD
theorem IY(h:Hd)(rs:List D)(z:Int)(w:List UInt8)(hh:nu h=false)(hl:h.supp.length≤100):
  ACalls (cxg gl) 71 [.ptr 0 0, .d (shD h rs z)] (WO w) (fun r H=>r=I 12∧H=WO w):=by
 have mc:=OU (gl:=gl) h rs z hl;rw[hh]at mc;refine ACalls.en Tryz.func71 Tryz.ntmps71 ?_;repeat' (first|refine aa.aF ?_|refine aa.bh true ?_|refine aa.De (mc) ?_|refine aa.aB ?_|refine aa.ak ?_|refine aa.aM ?_|intro _|refine aa.aA ?_)
 all_goals exact Tn
end Sh
end Go.Proofs.YtbpednchkndocaaGreatDoor.Av
