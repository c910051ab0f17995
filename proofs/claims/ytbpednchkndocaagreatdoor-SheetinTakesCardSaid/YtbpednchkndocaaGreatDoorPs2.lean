/- Vectors that may be. Vectors that may be: motion.May. Vectors that may be: the document's answer. -/
import Derived.Test.YtbpednchkndocaaGreatDoorPy2
import Derived.Test.YtbpednchkndocaaGreatDoorPn3
import Derived.Test.YtbpednchkndocaaGreatDoorCo3
import Derived.Test.YtbpednchkndocaaGreatDoorPs1
set_option linter.unusedVariables false
set_option linter.unusedSimpArgs false
set_option maxRecDepth 100000
set_option maxHeartbeats 64000000
namespace Go.Proofs.YtbpednchkndocaaGreatDoor.Av
namespace Sh
open Go Bt
attribute [local irreducible] aa ACalls
variable {gl:List (Nat×List D)}
def inS (x w:Int):Bool:=decide (0≤x∧(x+1) / 2+16≤w)
theorem yx (x w:Int) (hx : -1000000≤x∧x≤1000000):ACalls (cxg gl) 146 [I x,I 16,I w] [] (fun r H=>r=B (inS x w)∧H=[]):=by
 unfold inS
 by_cases h0:0≤x
 ·by_cases h1:(x+1) / 2+16≤w
  ·rw[decide_eq_true ⟨h0,h1⟩]
   refine ACalls.en Tryz.func146 Tryz.ntmps146 ?_
   repeat' (first|intro _|refine aa.bA ?_)
   all_goals first|exact⟨rfl,rfl⟩|exact⟨congrArg B (by simp only[bT,bF];omega),rfl⟩|exact⟨congrArg B (decide_eq_true h1),rfl⟩
  ·rw[decide_eq_false (fun h=>h1 h.2)]
   refine ACalls.en Tryz.func146 Tryz.ntmps146 ?_
   repeat' (first|intro _|refine aa.bA ?_)
   all_goals first|exact⟨rfl,rfl⟩|exact⟨congrArg B (decide_eq_false h1),rfl⟩
 ·rw[decide_eq_false (fun h=>h0 h.1)]
  refine ACalls.en Tryz.func146 Tryz.ntmps146 ?_
  repeat' (first|intro _|refine aa.bA ?_)
  all_goals first|exact⟨rfl,rfl⟩
theorem zH (x w:Int) (hx : -1000000≤x∧x≤1000000):ACalls (cxg gl) 140 [I x,I w] [] (fun r H=>r=B (inS x w)∧H=[]):=by
 unfold inS
 by_cases h0:0≤x
 ·by_cases h1:(x+30) / 2+(x+30)%2<w
  ·rw[decide_eq_true (show 0≤x∧(x+1) / 2+16≤w by omega)]
   refine ACalls.en Tryz.func140 Tryz.ntmps140 ?_
   repeat' (first|intro _|refine aa.bA ?_)
   all_goals first|exact⟨rfl,rfl⟩|exact⟨congrArg B (decide_eq_true h1),rfl⟩
  ·rw[decide_eq_false (show ¬(0≤x∧(x+1) / 2+16≤w) by omega)]
   refine ACalls.en Tryz.func140 Tryz.ntmps140 ?_
   repeat' (first|intro _|refine aa.bA ?_)
   all_goals first|exact⟨rfl,rfl⟩|exact⟨congrArg B (decide_eq_false h1),rfl⟩
 ·rw[decide_eq_false (fun h=>h0 h.1)]
  refine ACalls.en Tryz.func140 Tryz.ntmps140 ?_
  repeat' (first|(apply aa.q false;rfl;rfl;rfl;rfl;first|exact True.intro|omega|(simp only[tn,Int.reduceToNat];omega)|decide)|intro _|refine aa.bA ?_)
  all_goals first|exact⟨rfl,rfl⟩
end Sh
namespace Sh
open Go Bt
attribute [local irreducible] aa ACalls
variable {gl:List (Nat×List D)}
def u9 (v:Int):Bool:=decide (-32≤v∧v≤31)
def nU (f n:Int) (p:Int×Int):Bool:=u9 p.1&&u9 p.2&&inS (32*(n%fA f)+p.1) (fW f)&&inS (32*(n / fA f)+p.2) (fH f)
theorem CP {f:Int} (h:fOk f=true):2≤fA f∧fA f≤88∧2≤fD f∧fD f≤72:=by
 have hb:=qP h
 have:f=1∨f=2∨f=3∨f=4∨f=5∨f=6:=by omega
 rcases this with rfl|rfl|rfl|rfl|rfl|rfl<;>decide
attribute [local irreducible] inS fW fH
theorem LF (f n:Int) (p:Int×Int) (hf:fOk f=true) (hn:0≤n∧n<fA f*fD f) :
  ACalls (cxg gl) 75 [I f,I n, .d (pD p)] [] (fun r H=>r=B (nU f n p)∧H=[]):=by
 have hc:=jm (gl:=gl) f
 have hs:=AB (gl:=gl) f
 rw[hf]at hs
 have hb:=CP hf
 have hw:=CN f
 have hh:=CO f
 have hm:0≤fA f*fD f∧fA f*fD f≤88*72:=⟨Int.mul_nonneg (by omega) (by omega),Int.mul_le_mul (by omega) (by omega) (by omega) (by omega)⟩
 obtain⟨d1,d2,d3,d4,d5,d6,d7,d8⟩:=nQ n (fA f) hn.1 (by omega)
 unfold nU
 generalize fA f=A at *
 generalize fD f=E at *
 have hm3 : -9223372036854775808≤A*E∧A*E≤9223372036854775807:=⟨by omega,by omega⟩
 by_cases hx : -32≤p.1∧p.1≤31
 ·by_cases hy : -32≤p.2∧p.2≤31
  ·rw[show u9 p.1=true from decide_eq_true hx,show u9 p.2=true from decide_eq_true hy]
   have w1:=yx (gl:=gl) (32*(n%A)+p.1) (fW f) (by omega)
   have w2:=yx (gl:=gl) (32*(n / A)+p.2) (fH f) (by omega)
   generalize inS (32*(n%A)+p.1) (fW f)=b1 at *
   generalize inS (32*(n / A)+p.2) (fH f)=b2 at *
   cases b1
   all_goals
    refine ACalls.en Tryz.func75 Tryz.ntmps75 ?_
    repeat' (first|((first|apply aa.q true|apply aa.qq true);rfl;rfl;rfl;rfl;first|exact True.intro|omega|(simp only[tn,Int.reduceToNat];omega)|(exact hm3)|((refine⟨?_,Nat.le_of_ble_eq_true rfl⟩;omega)))|refine aa.ae (hc) ?_|refine aa.aV (hc) ?_|refine aa.ae (hs) ?_|refine aa.aV (hs) ?_|refine aa.ae (w1) ?_|refine aa.aV (w1) ?_|refine aa.ae (w2) ?_|refine aa.aV (w2) ?_|apply aa.bO|apply aa.lpU|intro _|(apply aa.gD;rfl;rfl;rfl)|refine aa.aR ?_)
    all_goals first|exact⟨rfl,rfl⟩|omega
  ·rw[show u9 p.2=false from decide_eq_false hy,Bool.and_false]
   refine ACalls.en Tryz.func75 Tryz.ntmps75 ?_
   repeat' (first|((first|apply aa.q true|apply aa.qq true);rfl;rfl;rfl;rfl;first|exact True.intro|omega|(simp only[tn,Int.reduceToNat];omega)|(exact hm3)|((refine⟨?_,Nat.le_of_ble_eq_true rfl⟩;omega)))|refine aa.ae (hc) ?_|refine aa.aV (hc) ?_|refine aa.ae (hs) ?_|refine aa.aV (hs) ?_|apply aa.bO|apply aa.lpU|intro _|(apply aa.gD;rfl;rfl;rfl)|refine aa.aR ?_)
   all_goals first|exact⟨rfl,rfl⟩|omega
 ·rw[show u9 p.1=false from decide_eq_false hx]
  refine ACalls.en Tryz.func75 Tryz.ntmps75 ?_
  repeat' (first|((first|apply aa.q true|apply aa.qq true);rfl;rfl;rfl;rfl;first|exact True.intro|omega|(simp only[tn,Int.reduceToNat];omega)|(exact hm3)|((refine⟨?_,Nat.le_of_ble_eq_true rfl⟩;omega)))|refine aa.ae (hc) ?_|refine aa.aV (hc) ?_|refine aa.ae (hs) ?_|refine aa.aV (hs) ?_|apply aa.bO|apply aa.lpU|intro _|(apply aa.gD;rfl;rfl;rfl)|refine aa.aR ?_)
  all_goals first|exact⟨rfl,rfl⟩|omega
end Sh
namespace Sh
open Go Bt
attribute [local irreducible] aa ACalls
variable {gl:List (Nat×List D)}
attribute [local irreducible] inS fW fH fR fL
theorem FH (f n:Int) (p:Int×Int) (hf:fOk f=true) (hn:0≤n∧n<fA f*fD f) :
  ACalls (cxg gl) 65 [I f,I n, .d (pD p)] [] (fun r H=>r=B (nU f n p)∧H=[]):=by
 have hfb:=qP hf
 have hc:=wT (gl:=gl) f (by omega)
 have ha:=vK (gl:=gl) f (by omega)
 have hs:=r9 (gl:=gl) f (by omega)
 unfold DD at hs
 unfold fN at hc
 have hb:=CP hf
 have hw:=CN f
 have hh:=CO f
 have hm:0≤fA f*fD f∧fA f*fD f≤88*72:=⟨Int.mul_nonneg (by omega) (by omega),Int.mul_le_mul (by omega) (by omega) (by omega) (by omega)⟩
 obtain⟨d1,d2,d3,d4,d5,d6,d7,d8⟩:=nQ n (fA f) hn.1 (by omega)
 unfold nU
 generalize fA f=A at *
 generalize fD f=E at *
 by_cases hx : -32≤p.1∧p.1≤31
 ·by_cases hy : -32≤p.2∧p.2≤31
  ·rw[show u9 p.1=true from decide_eq_true hx,show u9 p.2=true from decide_eq_true hy]
   have w1:=zH (gl:=gl) (32*(n%A)+p.1) (fW f) (by omega)
   have w2:=zH (gl:=gl) (32*(n / A)+p.2) (fH f) (by omega)
   generalize inS (32*(n%A)+p.1) (fW f)=b1 at *
   generalize inS (32*(n / A)+p.2) (fH f)=b2 at *
   cases b1
   all_goals
    refine ACalls.en Tryz.func65 Tryz.ntmps65 ?_
    repeat' (first|((first|apply aa.q true|apply aa.qq true);rfl;rfl;rfl;rfl;first|exact True.intro|omega|(simp only[tn,Int.reduceToNat];omega)|((refine⟨?_,Nat.le_of_ble_eq_true rfl⟩;omega)))|refine aa.ae (hc) ?_|refine aa.aV (hc) ?_|refine aa.ae (ha) ?_|refine aa.aV (ha) ?_|refine aa.ae (hs) ?_|refine aa.aV (hs) ?_|refine aa.ae (w1) ?_|refine aa.aV (w1) ?_|refine aa.ae (w2) ?_|refine aa.aV (w2) ?_|apply aa.bO|apply aa.lpU|intro _|(apply aa.gD;rfl;rfl;rfl)|refine aa.aR ?_)
    all_goals first|exact⟨rfl,rfl⟩|omega
  ·rw[show u9 p.2=false from decide_eq_false hy,Bool.and_false]
   refine ACalls.en Tryz.func65 Tryz.ntmps65 ?_
   repeat' (first|((first|apply aa.q true|apply aa.qq true);rfl;rfl;rfl;rfl;first|exact True.intro|omega|(simp only[tn,Int.reduceToNat];omega)|((refine⟨?_,Nat.le_of_ble_eq_true rfl⟩;omega)))|refine aa.ae (hc) ?_|refine aa.aV (hc) ?_|refine aa.ae (ha) ?_|refine aa.aV (ha) ?_|refine aa.ae (hs) ?_|refine aa.aV (hs) ?_|apply aa.bO|apply aa.lpU|intro _|(apply aa.gD;rfl;rfl;rfl)|refine aa.aR ?_)
   all_goals first|exact⟨rfl,rfl⟩|omega
 ·rw[show u9 p.1=false from decide_eq_false hx]
  refine ACalls.en Tryz.func65 Tryz.ntmps65 ?_
  repeat' (first|((first|apply aa.q true|apply aa.qq true);rfl;rfl;rfl;rfl;first|exact True.intro|omega|(simp only[tn,Int.reduceToNat];omega)|((refine⟨?_,Nat.le_of_ble_eq_true rfl⟩;omega)))|refine aa.ae (hc) ?_|refine aa.aV (hc) ?_|refine aa.ae (ha) ?_|refine aa.aV (ha) ?_|refine aa.ae (hs) ?_|refine aa.aV (hs) ?_|apply aa.bO|apply aa.lpU|intro _|(apply aa.gD;rfl;rfl;rfl)|refine aa.aR ?_)
  all_goals first|exact⟨rfl,rfl⟩|omega
end Sh
end Go.Proofs.YtbpednchkndocaaGreatDoor.Av
namespace Go.Proofs.YtbpednchkndocaaGreatDoor.Av
namespace Sh
open Go Bt
attribute [local irreducible] aa ACalls
variable {gl:List (Nat×List D)}
end Sh
namespace Sh
open Go Bt Tc Co
attribute [local irreducible] aa ACalls
variable {gl:List (Nat×List D)}
attribute [local irreducible] bB
end Sh
namespace Sh
open Go Bt Tc Co
attribute [local irreducible] aa ACalls
variable {gl:List (Nat×List D)}
structure Rw where
 head:Bool
 id:Int
 quant:Int
 cells:List Cel
def dw (l:List Cel):List D:=l.map fun c=>fw c
theorem nR (l:List Cel):(dw l).length=l.length:=by simp[dw]
theorem wo:dw []=[]:=rfl
theorem qW (l:List Cel) (c:Cel):dw (l++[c])=dw l++[fw c]:=by simp[dw]
theorem wu {l:List Cel} {k:Nat} {c:Cel} (h:l[k]?=some c):(dw l).getD (k:Int).toNat .top=fw c:=by
 simp[dw,List.getD,h]
abbrev rwD (r:Rw):D := .agg [.bool r.head,In r.id,In r.quant, .sl 18 (dw r.cells)]
def rsD (l:List Rw):List D:=l.map fun r=>rwD r
theorem wP (l:List Rw):(rsD l).length=l.length:=by simp[rsD]
theorem IP {l:List Rw} {k:Nat} {r:Rw} (h:l[k]?=some r):(rsD l).getD (k:Int).toNat .top=rwD r:=by
 simp[rsD,List.getD,h]
def cellsOf (l:List Rw):List Cel:=l.flatMap (·.cells)
theorem xU {l:List Rw} {k:Nat} {r:Rw} (h:l[k]?=some r):cellsOf (l.take (k+1))=cellsOf (l.take k)++r.cells:=by
 unfold cellsOf
 rw[List.take_add_one,h,List.flatMap_append];simp
end Sh
namespace Sh
open Go Bt Tc Co
attribute [local irreducible] aa ACalls
variable {gl:List (Nat×List D)}
structure H3 (rs:List Rw):Prop where
 few:rs.length≤1000
 cells:∀r∈rs,r.cells.length≤1000∧∀c∈r.cells,uZ c
theorem uN:∀(l:List Rw),(∀r∈l,r.cells.length≤1000)→(cellsOf l).length≤1000*l.length
 |[],_=>by simp[cellsOf]
 |r::l,h=>by
  have h1:=h r List.mem_cons_self
  have h2:=uN l fun x hx=>h x (List.mem_cons_of_mem _ hx)
  have e:cellsOf (r::l)=r.cells++cellsOf l:=rfl
  rw[e,List.length_append,List.length_cons];omega
theorem H3.le {rs:List Rw} (h:H3 rs) (i:Nat):(cellsOf (rs.take i)).length≤1000000:=by
 have h1:=uN (rs.take i) fun r hr=>(h.cells r (List.mem_of_mem_take hr)).1
 have h2:=h.few
 have h3:(rs.take i).length≤1000:=by rw[List.length_take];omega
 omega
abbrev shA (h:Hd) (rs:List D) (z:Int):List AV:=[.d (Nn h.ref), .d (Nn h.flags), .d (Nn h.fmt), .d (.bool h.inter), .d (Nn h.quant), .d (.sl 1 (suD h.supp)), .d (.sl 4 rs), .d (Nn z)]
abbrev rwA (r:Rw):List AV:=[.d (.bool r.head), .d (In r.id), .d (In r.quant), .d (.sl 18 (dw r.cells))]
attribute [local irreducible] bB suD dw rsD
end Sh
end Go.Proofs.YtbpednchkndocaaGreatDoor.Av
