/- Vectors that may be. Vectors that may be: motion.May. Vectors that may be: the document's answer. -/
import Derived.Test.YtbpednchkndocaaGreatDoorPy2
import Derived.Test.YtbpednchkndocaaGreatDoorPn3
import Derived.Test.YtbpednchkndocaaGreatDoorCo3
import Derived.Test.YtbpednchkndocaaGreatDoorPs1
set_option linter.unusedVariables false
set_option linter.unusedSimpArgs false
set_option maxRecDepth 100000
set_option maxHeartbeats 64000000
namespace Go.Proofs.YtbpednchkndocaaGreatDoor.Av
namespace Sh
open Go Bt
attribute [local irreducible] aa ACalls
variable {gl:List (Nat×List D)}
def inS (x w:Int):Bool:=decide (0≤x∧(x+1) / 2+16≤w)
theorem yX (x w:Int) (hx : -1000000≤x∧x≤1000000):ACalls (cxg gl) 146 [I x,I 16,I w] [] (fun r H=>r=B (inS x w)∧H=[]):=by
 unfold inS
 by_cases h0:0≤x
 ·by_cases h1:(x+1) / 2+16≤w
  ·rw[decide_eq_true ⟨h0,h1⟩]
   refine ACalls.en Tryz.func146 Tryz.ntmps146 ?_
   repeat' (first|refine aa.aD ?_|refine aa.bh true ?_|refine aa.aj ?_|refine aa.bL ?_|refine aa.bq ?_|refine aa.aB ?_|intro _|refine aa.av ?_)
   all_goals first|exact⟨rfl,rfl⟩|exact⟨congrArg B (by simp only[bT,bF];omega),rfl⟩|exact⟨congrArg B (decide_eq_true h1),rfl⟩
  ·rw[decide_eq_false (fun h=>h1 h.2)]
   refine ACalls.en Tryz.func146 Tryz.ntmps146 ?_
   repeat' (first|refine aa.aD ?_|refine aa.bh true ?_|refine aa.aj ?_|refine aa.bL ?_|refine aa.bq ?_|refine aa.aB ?_|intro _|refine aa.av ?_)
   all_goals first|exact⟨rfl,rfl⟩|exact⟨congrArg B (decide_eq_false h1),rfl⟩
 ·rw[decide_eq_false (fun h=>h0 h.1)]
  refine ACalls.en Tryz.func146 Tryz.ntmps146 ?_
  repeat' (first|refine aa.aD ?_|refine aa.bh true ?_|refine aa.aj ?_|refine aa.bL ?_|refine aa.bq ?_|refine aa.aB ?_|intro _|refine aa.av ?_)
  all_goals first|exact⟨rfl,rfl⟩
theorem Af (x w:Int) (hx : -1000000≤x∧x≤1000000):ACalls (cxg gl) 140 [I x,I w] [] (fun r H=>r=B (inS x w)∧H=[]):=by
 unfold inS
 by_cases h0:0≤x
 ·by_cases h1:(x+30) / 2+(x+30)%2<w
  ·rw[decide_eq_true (show 0≤x∧(x+1) / 2+16≤w by omega)]
   refine ACalls.en Tryz.func140 Tryz.ntmps140 ?_
   repeat' (first|refine aa.aD ?_|refine aa.bh true ?_|refine aa.aj ?_|refine aa.bL ?_|refine aa.bq ?_|refine aa.aB ?_|intro _|refine aa.av ?_)
   all_goals first|exact⟨rfl,rfl⟩|exact⟨congrArg B (decide_eq_true h1),rfl⟩
  ·rw[decide_eq_false (show ¬(0≤x∧(x+1) / 2+16≤w) by omega)]
   refine ACalls.en Tryz.func140 Tryz.ntmps140 ?_
   repeat' (first|refine aa.aD ?_|refine aa.bh true ?_|refine aa.aj ?_|refine aa.bL ?_|refine aa.bq ?_|refine aa.aB ?_|intro _|refine aa.av ?_)
   all_goals first|exact⟨rfl,rfl⟩|exact⟨congrArg B (decide_eq_false h1),rfl⟩
 ·rw[decide_eq_false (fun h=>h0 h.1)]
  refine ACalls.en Tryz.func140 Tryz.ntmps140 ?_
  repeat' (first|refine aa.aD ?_|(apply aa.q false;rfl;rfl;rfl;rfl;first|exact True.intro|omega|(simp only[tn,Int.reduceToNat];omega)|decide)|refine aa.aj ?_|refine aa.bL ?_|refine aa.bq ?_|refine aa.aB ?_|intro _|refine aa.av ?_)
  all_goals first|exact⟨rfl,rfl⟩
end Sh
namespace Sh
open Go Bt
attribute [local irreducible] aa ACalls
variable {gl:List (Nat×List D)}
def vN (v:Int):Bool:=decide (-32≤v∧v≤31)
def oO (f n:Int) (p:Int×Int):Bool:=vN p.1&&vN p.2&&inS (32*(n%fA f)+p.1) (fW f)&&inS (32*(n / fA f)+p.2) (fH f)
theorem Dl {f:Int} (h:fOk f=true):2≤fA f∧fA f≤88∧2≤fD f∧fD f≤72:=by
 have hb:=rO h
 have:f=1∨f=2∨f=3∨f=4∨f=5∨f=6:=by omega
 rcases this with rfl|rfl|rfl|rfl|rfl|rfl<;>decide
attribute [local irreducible] inS fW fH
theorem LF (f n:Int) (p:Int×Int) (hf:fOk f=true) (hn:0≤n∧n<fA f*fD f) :
  ACalls (cxg gl) 75 [I f,I n, .d (pD p)] [] (fun r H=>r=B (oO f n p)∧H=[]):=by
 have hc:=jS (gl:=gl) f
 have hs:=Bi (gl:=gl) f
 rw[hf]at hs
 have hb:=Dl hf
 have hw:=Dj f
 have hh:=Dk f
 have hm:0≤fA f*fD f∧fA f*fD f≤88*72:=⟨Int.mul_nonneg (by omega) (by omega),Int.mul_le_mul (by omega) (by omega) (by omega) (by omega)⟩
 obtain⟨d1,d2,d3,d4,d5,d6,d7,d8⟩:=oK n (fA f) hn.1 (by omega)
 unfold oO
 generalize fA f=A at *
 generalize fD f=E at *
 have hm3 : -9223372036854775808≤A*E∧A*E≤9223372036854775807:=⟨by omega,by omega⟩
 by_cases hx : -32≤p.1∧p.1≤31
 ·by_cases hy : -32≤p.2∧p.2≤31
  ·rw[show vN p.1=true from decide_eq_true hx,show vN p.2=true from decide_eq_true hy]
   have w1:=yX (gl:=gl) (32*(n%A)+p.1) (fW f) (by omega)
   have w2:=yX (gl:=gl) (32*(n / A)+p.2) (fH f) (by omega)
   generalize inS (32*(n%A)+p.1) (fW f)=b1 at *
   generalize inS (32*(n / A)+p.2) (fH f)=b2 at *
   cases b1
   all_goals
    refine ACalls.en Tryz.func75 Tryz.ntmps75 ?_
    repeat' (first|refine aa.aD ?_|((first|apply aa.q true|apply aa.qq true);rfl;rfl;rfl;rfl;first|exact True.intro|omega|(simp only[tn,Int.reduceToNat];omega)|(exact hm3)|((refine⟨?_,Nat.le_of_ble_eq_true rfl⟩;omega)))|refine aa.ah (hc) ?_|refine aa.bI (hc) ?_|refine aa.ah (hs) ?_|refine aa.bI (hs) ?_|refine aa.ah (w1) ?_|refine aa.bI (w1) ?_|refine aa.ah (w2) ?_|refine aa.bI (w2) ?_|refine aa.aV ?_|refine aa.aW ?_|refine aa.ae ?_|refine aa.af ?_|refine aa.au ?_|refine aa.ba ?_|refine aa.aj ?_|refine aa.aU ?_|refine aa.bq ?_|refine aa.aB ?_|refine aa.cG ?_|apply aa.cK|apply aa.lpU|intro _|(apply aa.gD;rfl;rfl;rfl)|refine aa.av ?_)
    all_goals first|exact⟨rfl,rfl⟩|omega
  ·rw[show vN p.2=false from decide_eq_false hy,Bool.and_false]
   refine ACalls.en Tryz.func75 Tryz.ntmps75 ?_
   repeat' (first|refine aa.aD ?_|((first|apply aa.q true|apply aa.qq true);rfl;rfl;rfl;rfl;first|exact True.intro|omega|(simp only[tn,Int.reduceToNat];omega)|(exact hm3)|((refine⟨?_,Nat.le_of_ble_eq_true rfl⟩;omega)))|refine aa.ah (hc) ?_|refine aa.bI (hc) ?_|refine aa.ah (hs) ?_|refine aa.bI (hs) ?_|refine aa.aV ?_|refine aa.aW ?_|refine aa.ae ?_|refine aa.af ?_|refine aa.au ?_|refine aa.ba ?_|refine aa.aj ?_|refine aa.aU ?_|refine aa.bq ?_|refine aa.aB ?_|refine aa.cG ?_|apply aa.cK|apply aa.lpU|intro _|(apply aa.gD;rfl;rfl;rfl)|refine aa.av ?_)
   all_goals first|exact⟨rfl,rfl⟩|omega
 ·rw[show vN p.1=false from decide_eq_false hx]
  refine ACalls.en Tryz.func75 Tryz.ntmps75 ?_
  repeat' (first|refine aa.aD ?_|((first|apply aa.q true|apply aa.qq true);rfl;rfl;rfl;rfl;first|exact True.intro|omega|(simp only[tn,Int.reduceToNat];omega)|(exact hm3)|((refine⟨?_,Nat.le_of_ble_eq_true rfl⟩;omega)))|refine aa.ah (hc) ?_|refine aa.bI (hc) ?_|refine aa.ah (hs) ?_|refine aa.bI (hs) ?_|refine aa.aV ?_|refine aa.aW ?_|refine aa.ae ?_|refine aa.af ?_|refine aa.au ?_|refine aa.ba ?_|refine aa.aj ?_|refine aa.aU ?_|refine aa.bq ?_|refine aa.aB ?_|refine aa.cG ?_|apply aa.cK|apply aa.lpU|intro _|(apply aa.gD;rfl;rfl;rfl)|refine aa.av ?_)
  all_goals first|exact⟨rfl,rfl⟩|omega
end Sh
namespace Sh
open Go Bt
attribute [local irreducible] aa ACalls
variable {gl:List (Nat×List D)}
attribute [local irreducible] inS fW fH fR fL
theorem FW (f n:Int) (p:Int×Int) (hf:fOk f=true) (hn:0≤n∧n<fA f*fD f) :
  ACalls (cxg gl) 65 [I f,I n, .d (pD p)] [] (fun r H=>r=B (oO f n p)∧H=[]):=by
 have hfb:=rO hf
 have hc:=xz (gl:=gl) f (by omega)
 have ha:=wC (gl:=gl) f (by omega)
 have hs:=tC (gl:=gl) f (by omega)
 unfold D5 at hs
 unfold fN at hc
 have hb:=Dl hf
 have hw:=Dj f
 have hh:=Dk f
 have hm:0≤fA f*fD f∧fA f*fD f≤88*72:=⟨Int.mul_nonneg (by omega) (by omega),Int.mul_le_mul (by omega) (by omega) (by omega) (by omega)⟩
 obtain⟨d1,d2,d3,d4,d5,d6,d7,d8⟩:=oK n (fA f) hn.1 (by omega)
 unfold oO
 generalize fA f=A at *
 generalize fD f=E at *
 by_cases hx : -32≤p.1∧p.1≤31
 ·by_cases hy : -32≤p.2∧p.2≤31
  ·rw[show vN p.1=true from decide_eq_true hx,show vN p.2=true from decide_eq_true hy]
   have w1:=Af (gl:=gl) (32*(n%A)+p.1) (fW f) (by omega)
   have w2:=Af (gl:=gl) (32*(n / A)+p.2) (fH f) (by omega)
   generalize inS (32*(n%A)+p.1) (fW f)=b1 at *
   generalize inS (32*(n / A)+p.2) (fH f)=b2 at *
   cases b1
   all_goals
    refine ACalls.en Tryz.func65 Tryz.ntmps65 ?_
    repeat' (first|refine aa.aD ?_|((first|apply aa.q true|apply aa.qq true);rfl;rfl;rfl;rfl;first|exact True.intro|omega|(simp only[tn,Int.reduceToNat];omega)|((refine⟨?_,Nat.le_of_ble_eq_true rfl⟩;omega)))|refine aa.ah (hc) ?_|refine aa.bI (hc) ?_|refine aa.ah (ha) ?_|refine aa.bI (ha) ?_|refine aa.ah (hs) ?_|refine aa.bI (hs) ?_|refine aa.ah (w1) ?_|refine aa.bI (w1) ?_|refine aa.ah (w2) ?_|refine aa.bI (w2) ?_|refine aa.aV ?_|refine aa.aW ?_|refine aa.ae ?_|refine aa.af ?_|refine aa.au ?_|refine aa.ba ?_|refine aa.aj ?_|refine aa.aU ?_|refine aa.bq ?_|refine aa.aB ?_|refine aa.cG ?_|apply aa.cK|apply aa.lpU|intro _|(apply aa.gD;rfl;rfl;rfl)|refine aa.av ?_)
    all_goals first|exact⟨rfl,rfl⟩|omega
  ·rw[show vN p.2=false from decide_eq_false hy,Bool.and_false]
   refine ACalls.en Tryz.func65 Tryz.ntmps65 ?_
   repeat' (first|refine aa.aD ?_|((first|apply aa.q true|apply aa.qq true);rfl;rfl;rfl;rfl;first|exact True.intro|omega|(simp only[tn,Int.reduceToNat];omega)|((refine⟨?_,Nat.le_of_ble_eq_true rfl⟩;omega)))|refine aa.ah (hc) ?_|refine aa.bI (hc) ?_|refine aa.ah (ha) ?_|refine aa.bI (ha) ?_|refine aa.ah (hs) ?_|refine aa.bI (hs) ?_|refine aa.aV ?_|refine aa.aW ?_|refine aa.ae ?_|refine aa.af ?_|refine aa.au ?_|refine aa.ba ?_|refine aa.aj ?_|refine aa.aU ?_|refine aa.bq ?_|refine aa.aB ?_|refine aa.cG ?_|apply aa.cK|apply aa.lpU|intro _|(apply aa.gD;rfl;rfl;rfl)|refine aa.av ?_)
   all_goals first|exact⟨rfl,rfl⟩|omega
 ·rw[show vN p.1=false from decide_eq_false hx]
  refine ACalls.en Tryz.func65 Tryz.ntmps65 ?_
  repeat' (first|refine aa.aD ?_|((first|apply aa.q true|apply aa.qq true);rfl;rfl;rfl;rfl;first|exact True.intro|omega|(simp only[tn,Int.reduceToNat];omega)|((refine⟨?_,Nat.le_of_ble_eq_true rfl⟩;omega)))|refine aa.ah (hc) ?_|refine aa.bI (hc) ?_|refine aa.ah (ha) ?_|refine aa.bI (ha) ?_|refine aa.ah (hs) ?_|refine aa.bI (hs) ?_|refine aa.aV ?_|refine aa.aW ?_|refine aa.ae ?_|refine aa.af ?_|refine aa.au ?_|refine aa.ba ?_|refine aa.aj ?_|refine aa.aU ?_|refine aa.bq ?_|refine aa.aB ?_|refine aa.cG ?_|apply aa.cK|apply aa.lpU|intro _|(apply aa.gD;rfl;rfl;rfl)|refine aa.av ?_)
  all_goals first|exact⟨rfl,rfl⟩|omega
end Sh
end Go.Proofs.YtbpednchkndocaaGreatDoor.Av
namespace Go.Proofs.YtbpednchkndocaaGreatDoor.Av
namespace Sh
open Go Bt
attribute [local irreducible] aa ACalls
variable {gl:List (Nat×List D)}
end Sh
namespace Sh
open Go Bt Tc Co
attribute [local irreducible] aa ACalls
variable {gl:List (Nat×List D)}
attribute [local irreducible] cn
end Sh
namespace Sh
open Go Bt Tc Co
attribute [local irreducible] aa ACalls
variable {gl:List (Nat×List D)}
structure Rw where
 head:Bool
 id:Int
 quant:Int
 cells:List Cel
def dZ (l:List Cel):List D:=l.map fun c=>gz c
theorem oL (l:List Cel):(dZ l).length=l.length:=by simp[dZ]
theorem wU:dZ []=[]:=rfl
theorem rU (l:List Cel) (c:Cel):dZ (l++[c])=dZ l++[gz c]:=by simp[dZ]
theorem wV {l:List Cel} {k:Nat} {c:Cel} (h:l[k]?=some c):(dZ l).getD (k:Int).toNat .top=gz c:=by
 simp[dZ,List.getD,h]
abbrev rwD (r:Rw):D := .agg [.bool r.head,In r.id,In r.quant, .sl 18 (dZ r.cells)]
def rsD (l:List Rw):List D:=l.map fun r=>rwD r
theorem xq (l:List Rw):(rsD l).length=l.length:=by simp[rsD]
theorem IY {l:List Rw} {k:Nat} {r:Rw} (h:l[k]?=some r):(rsD l).getD (k:Int).toNat .top=rwD r:=by
 simp[rsD,List.getD,h]
def cellsOf (l:List Rw):List Cel:=l.flatMap (·.cells)
theorem yD {l:List Rw} {k:Nat} {r:Rw} (h:l[k]?=some r):cellsOf (l.take (k+1))=cellsOf (l.take k)++r.cells:=by
 unfold cellsOf
 rw[List.take_add_one,h,List.flatMap_append];simp
end Sh
namespace Sh
open Go Bt Tc Co
attribute [local irreducible] aa ACalls
variable {gl:List (Nat×List D)}
structure Ic (rs:List Rw):Prop where
 few:rs.length≤1000
 cells:∀r∈rs,r.cells.length≤1000∧∀c∈r.cells,vM c
theorem vz:∀(l:List Rw),(∀r∈l,r.cells.length≤1000)→(cellsOf l).length≤1000*l.length
 |[],_=>by simp[cellsOf]
 |r::l,h=>by
  have h1:=h r List.mem_cons_self
  have h2:=vz l fun x hx=>h x (List.mem_cons_of_mem _ hx)
  have e:cellsOf (r::l)=r.cells++cellsOf l:=rfl
  rw[e,List.length_append,List.length_cons];omega
theorem Ic.le {rs:List Rw} (h:Ic rs) (i:Nat):(cellsOf (rs.take i)).length≤1000000:=by
 have h1:=vz (rs.take i) fun r hr=>(h.cells r (List.mem_of_mem_take hr)).1
 have h2:=h.few
 have h3:(rs.take i).length≤1000:=by rw[List.length_take];omega
 omega
abbrev shA (h:Hd) (rs:List D) (z:Int):List AV:=[.d (Nn h.ref), .d (Nn h.flags), .d (Nn h.fmt), .d (.bool h.inter), .d (Nn h.quant), .d (.sl 1 (suD h.supp)), .d (.sl 4 rs), .d (Nn z)]
abbrev rwA (r:Rw):List AV:=[.d (.bool r.head), .d (In r.id), .d (In r.quant), .d (.sl 18 (dZ r.cells))]
attribute [local irreducible] cn suD dZ rsD
end Sh
end Go.Proofs.YtbpednchkndocaaGreatDoor.Av
