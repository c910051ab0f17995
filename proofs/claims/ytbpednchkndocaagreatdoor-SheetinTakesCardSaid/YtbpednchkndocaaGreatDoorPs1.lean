/- Formats: how wide, how high, how many cells, rows and lines. Marks, heads of rows; how many cells. Heads of sheets: which may be. Heads of sheets: written. Heads of sheets that may not be: nothing is written. -/
import Derived.Test.YtbpednchkndocaaGreatDoorPw
set_option linter.unusedVariables false
set_option linter.unusedSimpArgs false
set_option maxRecDepth 100000
set_option maxHeartbeats 64000000
namespace Go.Proofs.YtbpednchkndocaaGreatDoor.Av
namespace Sh
open Go Bt
attribute [local irreducible] aa ACalls
variable {gl:List (Nat×List D)}
def fW (f:Int):Int:=if f=1 then 128 else if f=2 then 176 else if f=3 then 352 else if f=4 then 704 else if f=5 then 1408 else if f=6 then 32 else 0
def fH (f:Int):Int:=if f=1 then 96 else if f=2 then 144 else if f=3 then 288 else if f=4 then 576 else if f=5 then 1152 else if f=6 then 32 else 0
def fR (f:Int):Int:=if f=1 then 6 else if f=2 then 9 else if f=3 then 18 else if f=4 then 18 else if f=5 then 18 else if f=6 then 2 else 0
def fL (f:Int):Int:=if f=1 then 1 else if f=2 then 1 else if f=3 then 1 else if f=4 then 2 else if f=5 then 4 else if f=6 then 1 else 0
def fOk (f:Int):Bool:=decide (1≤f∧f≤6)
abbrev fA (f:Int):Int:=fW f / 16
abbrev fD (f:Int):Int:=fH f / 16
theorem Hj (f:Int):f=1∨f=2∨f=3∨f=4∨f=5∨f=6∨¬(1≤f∧f≤6):=by omega
theorem Hl {f:Int} (h:¬(1≤f∧f≤6)):fW f=0∧fH f=0∧fR f=0∧fL f=0∧fOk f=false:=by
 refine⟨?_,?_,?_,?_,decide_eq_false h⟩
 all_goals
  first|unfold fW|unfold fH|unfold fR|unfold fL
  rw[if_neg (by omega),if_neg (by omega),if_neg (by omega),if_neg (by omega),if_neg (by omega),if_neg (by omega)]
theorem Bi (f:Int):ACalls (cxg gl) 145 [I f] [] (fun r H=>r = .bK [I (fW f),I (fH f),B (fOk f)]∧H=[]):=by
 rcases Hj f with rfl|rfl|rfl|rfl|rfl|rfl|h
 rotate_right
 ·obtain⟨e1,e2,e3,e4,e5⟩:=Hl h
  rw[e1,e2,e5]
  refine ACalls.en Tryz.func145 Tryz.ntmps145 ?_
  repeat' (first|refine aa.aD ?_|refine aa.bh true ?_|refine aa.ae ?_|refine aa.af ?_|intro _|refine aa.av ?_)
  all_goals first|exact⟨rfl,rfl⟩|omega
 all_goals
  refine ACalls.en Tryz.func145 Tryz.ntmps145 ?_
  repeat' (first|refine aa.aD ?_|refine aa.bh true ?_|refine aa.ae ?_|refine aa.af ?_|intro _|refine aa.av ?_)
  all_goals first|exact⟨rfl,rfl⟩
theorem jS (f:Int):ACalls (cxg gl) 79 [I f] [] (fun r H=>r = .bK [I (fA f),I (fD f)]∧H=[]):=by
 have hs:=Bi (gl:=gl) f
 have hw:0≤fW f∧fW f≤1408:=by unfold fW;split<;>(try split)<;>(try split)<;>(try split)<;>(try split)<;>(try split)<;>decide
 have hh:0≤fH f∧fH f≤1408:=by unfold fH;split<;>(try split)<;>(try split)<;>(try split)<;>(try split)<;>(try split)<;>decide
 refine ACalls.en Tryz.func79 Tryz.ntmps79 ?_
 repeat' (first|refine aa.aD ?_|refine aa.bh true ?_|refine aa.ah (hs) ?_|intro _|refine aa.av ?_)
 all_goals first|exact⟨rfl,rfl⟩
theorem Bo (f:Int):ACalls (cxg gl) 70 [I f] [] (fun r H=>r = .bK [I (fR f),I (fL f)]∧H=[]):=by
 rcases Hj f with rfl|rfl|rfl|rfl|rfl|rfl|h
 ·have hs:ACalls (cxg gl) 79 [I 1] [] (fun r H=>r = .bK [I 8,I 6]∧H=[]):=jS 1
  refine ACalls.en Tryz.func70 Tryz.ntmps70 ?_
  repeat' (first|refine aa.aD ?_|refine aa.bh true ?_|refine aa.ah (hs) ?_|refine aa.ae ?_|refine aa.af ?_|intro _|refine aa.av ?_)
  all_goals first|exact⟨rfl,rfl⟩
 ·have hs:ACalls (cxg gl) 79 [I 2] [] (fun r H=>r = .bK [I 11,I 9]∧H=[]):=jS 2
  refine ACalls.en Tryz.func70 Tryz.ntmps70 ?_
  repeat' (first|refine aa.aD ?_|refine aa.bh true ?_|refine aa.ah (hs) ?_|refine aa.ae ?_|refine aa.af ?_|intro _|refine aa.av ?_)
  all_goals first|exact⟨rfl,rfl⟩
 ·have hs:ACalls (cxg gl) 79 [I 3] [] (fun r H=>r = .bK [I 22,I 18]∧H=[]):=jS 3
  refine ACalls.en Tryz.func70 Tryz.ntmps70 ?_
  repeat' (first|refine aa.aD ?_|refine aa.bh true ?_|refine aa.ah (hs) ?_|refine aa.ae ?_|refine aa.af ?_|intro _|refine aa.av ?_)
  all_goals first|exact⟨rfl,rfl⟩
 ·have hs:ACalls (cxg gl) 79 [I 4] [] (fun r H=>r = .bK [I 44,I 36]∧H=[]):=jS 4
  refine ACalls.en Tryz.func70 Tryz.ntmps70 ?_
  repeat' (first|refine aa.aD ?_|refine aa.bh true ?_|refine aa.ah (hs) ?_|refine aa.ae ?_|refine aa.af ?_|intro _|refine aa.av ?_)
  all_goals first|exact⟨rfl,rfl⟩
 ·have hs:ACalls (cxg gl) 79 [I 5] [] (fun r H=>r = .bK [I 88,I 72]∧H=[]):=jS 5
  refine ACalls.en Tryz.func70 Tryz.ntmps70 ?_
  repeat' (first|refine aa.aD ?_|refine aa.bh true ?_|refine aa.ah (hs) ?_|refine aa.ae ?_|refine aa.af ?_|intro _|refine aa.av ?_)
  all_goals first|exact⟨rfl,rfl⟩
 ·have hs:ACalls (cxg gl) 79 [I 6] [] (fun r H=>r = .bK [I 2,I 2]∧H=[]):=jS 6
  refine ACalls.en Tryz.func70 Tryz.ntmps70 ?_
  repeat' (first|refine aa.aD ?_|refine aa.bh true ?_|refine aa.ah (hs) ?_|refine aa.ae ?_|refine aa.af ?_|intro _|refine aa.av ?_)
  all_goals first|exact⟨rfl,rfl⟩
 ·have hs:=jS (gl:=gl) f
  obtain⟨e1,e2,e3,e4,e5⟩:=Hl h
  unfold fA fD at hs
  rw[e1,e2]at hs
  rw[e3,e4]
  refine ACalls.en Tryz.func70 Tryz.ntmps70 ?_
  repeat' (first|refine aa.aD ?_|refine aa.bh true ?_|refine aa.ah (hs) ?_|refine aa.ae ?_|refine aa.af ?_|intro _|refine aa.av ?_)
  all_goals first|exact⟨rfl,rfl⟩|omega
abbrev D5 (f:Int):AV := .d (.agg [.int .i64 (fW f), .int .i64 (fH f), .int .i64 (fR f), .int .i64 (fL f)])
theorem tC (f:Int) (hb : -9223372036854775808≤f∧f≤9223372036854775807):ACalls (cxg gl) 58 [I f] [] (fun r H=>r=D5 f∧H=[]):=by
 rcases Hj f with rfl|rfl|rfl|rfl|rfl|rfl|h
 rotate_right
 ·obtain⟨e1,e2,e3,e4,e5⟩:=Hl h
  unfold D5
  rw[e1,e2,e3,e4]
  by_cases h0:f=0
  ·subst h0
   refine ACalls.en Tryz.func58 Tryz.ntmps58 ?_
   repeat' (first|refine aa.aD ?_|refine aa.nY ?_|refine aa.bh true ?_|refine aa.ae ?_|refine aa.au ?_|refine aa.ai ?_|refine aa.aG ?_|refine aa.aA ?_|refine aa.aL ?_|refine aa.aj ?_|refine aa.aB ?_|(apply aa.opx;(first|(apply jK;(iterate 5 rfl);(first|rfl|(simp only[List.length_append,List.length_map,List.length_set,List.length_replicate,List.length_cons,List.length_nil];omega)))|(apply fu;(iterate 8 rfl);(first|rfl|(simp only[List.length_append,List.length_map,List.length_set,List.length_replicate,List.length_cons,List.length_nil];omega));(first|decide|exact Nat.le_of_ble_eq_true rfl|(dsimp only;omega)|decide +kernel))|(apply eY;rfl;rfl;rfl;rfl;(first|rfl|(simp only[List.length_append,List.length_map,List.length_set,List.length_replicate,List.length_cons,List.length_nil];omega));rfl;rfl));rfl;rfl;rfl)|intro _|(apply aa.gD;rfl;rfl;rfl)|refine aa.av ?_)
   all_goals first|exact⟨rfl,rfl⟩
  ·refine ACalls.en Tryz.func58 Tryz.ntmps58 ?_
   repeat' (first|refine aa.aD ?_|refine aa.nY ?_|refine aa.bh true ?_|refine aa.ae ?_|refine aa.au ?_|refine aa.ai ?_|refine aa.aG ?_|refine aa.aA ?_|refine aa.aL ?_|refine aa.aj ?_|refine aa.aB ?_|(apply aa.opx;(first|(apply jK;(iterate 5 rfl);(first|rfl|(simp only[List.length_append,List.length_map,List.length_set,List.length_replicate,List.length_cons,List.length_nil];omega)))|(apply fu;(iterate 8 rfl);(first|rfl|(simp only[List.length_append,List.length_map,List.length_set,List.length_replicate,List.length_cons,List.length_nil];omega));(first|decide|exact Nat.le_of_ble_eq_true rfl|(dsimp only;omega)|decide +kernel))|(apply eY;rfl;rfl;rfl;rfl;(first|rfl|(simp only[List.length_append,List.length_map,List.length_set,List.length_replicate,List.length_cons,List.length_nil];omega));rfl;rfl));rfl;rfl;rfl)|intro _|(apply aa.gD;rfl;rfl;rfl)|refine aa.av ?_)
   all_goals first|exact⟨rfl,rfl⟩|omega
 all_goals
  refine ACalls.en Tryz.func58 Tryz.ntmps58 ?_
  repeat' (first|refine aa.aD ?_|refine aa.nY ?_|refine aa.bh true ?_|refine aa.ae ?_|refine aa.au ?_|refine aa.ai ?_|refine aa.aG ?_|refine aa.aA ?_|refine aa.aL ?_|refine aa.aj ?_|refine aa.aB ?_|(apply aa.opx;(first|(apply jK;(iterate 5 rfl);(first|rfl|(simp only[List.length_append,List.length_map,List.length_set,List.length_replicate,List.length_cons,List.length_nil];omega)))|(apply fu;(iterate 8 rfl);(first|rfl|(simp only[List.length_append,List.length_map,List.length_set,List.length_replicate,List.length_cons,List.length_nil];omega));(first|decide|exact Nat.le_of_ble_eq_true rfl|(dsimp only;omega)|decide +kernel))|(apply eY;rfl;rfl;rfl;rfl;(first|rfl|(simp only[List.length_append,List.length_map,List.length_set,List.length_replicate,List.length_cons,List.length_nil];omega));rfl;rfl));rfl;rfl;rfl)|intro _|(apply aa.gD;rfl;rfl;rfl)|refine aa.av ?_)
  all_goals first|exact⟨rfl,rfl⟩
end Sh
namespace Sh
open Go Bt Wr
attribute [local irreducible] aa ACalls
variable {gl:List (Nat×List D)}
def zs (n:Nat):List UInt8:=List.replicate n 48
attribute [local irreducible] bO dx qo
def sK (n:Int):List UInt8:=[48,48,48,48,48,48,48,48,48,48,48,48,48,48,48,48,49]++cH n 5 5
attribute [local irreducible] sK cH
def zw (n id q:Int):List UInt8:=sK n++(cH id 2 2++cH q 5 5)
attribute [local irreducible] zs
theorem Dj (f:Int):0≤fW f∧fW f≤1408:=by unfold fW;split<;>(try split)<;>(try split)<;>(try split)<;>(try split)<;>(try split)<;>decide
theorem Dk (f:Int):0≤fH f∧fH f≤1408:=by unfold fH;split<;>(try split)<;>(try split)<;>(try split)<;>(try split)<;>(try split)<;>decide
theorem wC (f:Int) (hb : -9223372036854775808≤f∧f≤9223372036854775807):ACalls (cxg gl) 59 [I f] [] (fun r H=>r=I (fA f)∧H=[]):=by
 have hs:=tC (gl:=gl) f hb
 unfold D5 at hs
 have hw:=Dj f
 have hh:=Dk f
 refine ACalls.en Tryz.func59 Tryz.ntmps59 ?_
 repeat' (first|refine aa.aD ?_|(apply aa.q true;rfl;rfl;rfl;rfl;first|exact True.intro|omega|(simp only[tn,Int.reduceToNat];omega)|(exact⟨by omega,Nat.le_of_ble_eq_true rfl⟩))|refine aa.ah (hs) ?_|intro _|refine aa.av ?_)
 all_goals first|exact⟨rfl,rfl⟩
abbrev fN (f:Int):Int:=fA f*fD f
theorem xz (f:Int) (hb : -9223372036854775808≤f∧f≤9223372036854775807):ACalls (cxg gl) 131 [I f] [] (fun r H=>r=I (fN f)∧H=[]):=by
 have hs:=tC (gl:=gl) f hb
 unfold D5 at hs
 have hw:=Dj f
 have hh:=Dk f
 have ha:0≤fA f∧fA f≤88:=by unfold fA;omega
 have hd:0≤fD f∧fD f≤88:=by unfold fD;omega
 have hm:0≤fA f*fD f∧fA f*fD f≤88*88:=⟨Int.mul_nonneg ha.1 hd.1,Int.mul_le_mul ha.2 hd.2 hd.1 (by omega)⟩
 have hm3 : -9223372036854775808≤fW f / 16*(fH f / 16)∧fW f / 16*(fH f / 16)≤9223372036854775807:=⟨Int.le_trans (by decide) hm.1,Int.le_trans hm.2 (by decide)⟩
 refine ACalls.en Tryz.func131 Tryz.ntmps131 ?_
 repeat' (first|refine aa.aD ?_|(apply aa.q true;rfl;rfl;rfl;rfl;first|exact True.intro|omega|(simp only[tn,Int.reduceToNat];omega)|(exact hm3)|((refine⟨?_,Nat.le_of_ble_eq_true rfl⟩;omega)))|refine aa.ah (hs) ?_|intro _|refine aa.av ?_)
 all_goals first|exact⟨rfl,rfl⟩
end Sh
namespace Sh
open Go Bt Wr
attribute [local irreducible] aa ACalls
variable {gl:List (Nat×List D)}
structure Hd where
 ref:Int
 flags:Int
 fmt:Int
 inter:Bool
 quant:Int
 supp:List Int
abbrev Nn (n:Int):D := .int .i64 n
def suD (l:List Int):List D:=l.map Nn
theorem tu (l:List Int):(suD l).length=l.length:=by simp[suD]
theorem II (l:List Int) (k:Nat) (v:Int) (h:l[k]?=some v):((suD l).getD (k:Int).toNat .top).cells[0]?=some (Nn v):=by
 simp[suD,List.getD_eq_getElem?_getD,h,D.cells]
abbrev shD (h:Hd) (rs:List D) (z:Int):D := .agg [Nn h.ref,Nn h.flags,Nn h.fmt, .bool h.inter,Nn h.quant, .sl 1 (suD h.supp), .sl 4 rs,Nn z]
def okB (v:Int):Bool:=decide (0≤v∧v≤255)
def AL (h:Hd):Prop:=fOk h.fmt=true∧(0≤h.ref∧h.ref≤255)∧(0≤h.flags∧h.flags≤7)∧(1≤h.quant∧h.quant≤31)∧h.supp.length≤8
instance (h:Hd):Decidable (AL h):=by unfold AL;infer_instance
def oP (h:Hd):Bool:=decide (AL h)&&h.supp.all okB
attribute [local irreducible] suD
theorem Fq (l:List Int) (k:Nat) (v:Int) (h:l[k]?=some v):(l.take (k+1)).all okB=((l.take k).all okB&&okB v):=by
 rw[List.take_add_one,h,List.all_append];simp
end Sh
namespace Sh
open Go Bt Wr
attribute [local irreducible] aa ACalls
variable {gl:List (Nat×List D)}
def Fi (w:List UInt8) (n:Nat):Prop:=w.all bZ=true∧w.length≤n
theorem Fi.app {w v:List UInt8} {n m:Nat} (h:Fi w n) (h2:Fi v m):Fi (w++v) (n+m):=⟨by rw[List.all_append,h.1,h2.1];rfl,by have:=h.2;have:=h2.2;rw[List.length_append];omega⟩
def vZ (v:Int):List UInt8:=49::cH v 8 8
def iD (b:Bool):Int:=if b=true then 1 else 0
def sN (h:Hd):List UInt8:=sK 0++cH h.ref 8 8++cH 2 2 2++cH h.flags 3 3++cH h.fmt 3 3++cH (iD h.inter) 1 1++cH 0 4 4++cH h.quant 5 5++cH 0 1 1
def fI (h:Hd):List UInt8:=sN h++h.supp.flatMap vZ++cH 0 1 1
attribute [local irreducible] bO dx qo sK cH suD vZ
theorem uX {h:Hd} (hh:oP h=true):AL h∧∀v∈h.supp,0≤v∧v≤255:=by
 unfold oP at hh
 rw[Bool.and_eq_true,decide_eq_true_eq,List.all_eq_true]at hh
 exact⟨hh.1,fun v hv=>of_decide_eq_true (hh.2 v hv)⟩
theorem rO {f:Int} (h:fOk f=true):1≤f∧f≤6:=of_decide_eq_true h
end Sh
namespace Sh
open Go Bt Wr
attribute [local irreducible] aa ACalls
variable {gl:List (Nat×List D)}
attribute [local irreducible] bO dx qo suD
end Sh
end Go.Proofs.YtbpednchkndocaaGreatDoor.Av
