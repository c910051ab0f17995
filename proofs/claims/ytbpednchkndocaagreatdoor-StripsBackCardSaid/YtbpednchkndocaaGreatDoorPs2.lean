/- Vectors that may be. Vectors that may be: motion.May. Vectors that may be: the document's answer. -/
import Derived.Test.YtbpednchkndocaaGreatDoorCo3
import Derived.Test.YtbpednchkndocaaGreatDoorPn3
import Derived.Test.YtbpednchkndocaaGreatDoorPs1
set_option linter.unusedVariables false
set_option linter.unusedSimpArgs false
set_option maxRecDepth 100000
set_option maxHeartbeats 64000000
namespace Go.Proofs.YtbpednchkndocaaGreatDoor.Av
namespace Sh
open Go Bt
attribute [local irreducible] aa ACalls
variable {gl:List (Nat×List D)}
def inS(x w:Int):Bool:=decide (0≤x∧(x+1)/2+16≤w)
theorem Bw(x w:Int)(hx : -1000000≤x∧x≤1000000):ACalls (cxg gl) 146 [I x,I 16,I w] [] (fun r H=>r=B (inS x w)∧H=[]):=by
 unfold inS;by_cases h0:0≤x
 ·by_cases h1:(x+1)/2+16≤w
  ·rw[decide_eq_true ⟨h0,h1⟩];refine ACalls.en Tryz.func146 Tryz.ntmps146 ?_;repeat' (first|refine aa.aF ?_|refine aa.bh true ?_|refine aa.au ?_|refine aa.cf ?_|refine aa.bg ?_|refine aa.aC ?_|intro _|refine aa.aA ?_)
   all_goals first|exact⟨rfl,rfl⟩|exact⟨congrArg B (by simp only[bT,bF];omega),rfl⟩|exact⟨congrArg B (decide_eq_true h1),rfl⟩
  ·rw[decide_eq_false (fun h=>h1 h.2)];refine ACalls.en Tryz.func146 Tryz.ntmps146 ?_;repeat' (first|refine aa.aF ?_|refine aa.bh true ?_|refine aa.au ?_|refine aa.cf ?_|refine aa.bg ?_|refine aa.aC ?_|intro _|refine aa.aA ?_)
   all_goals first|exact⟨rfl,rfl⟩|exact⟨congrArg B (decide_eq_false h1),rfl⟩
 ·rw[decide_eq_false (fun h=>h0 h.1)];refine ACalls.en Tryz.func146 Tryz.ntmps146 ?_;repeat' (first|refine aa.aF ?_|refine aa.bh true ?_|refine aa.au ?_|refine aa.cf ?_|refine aa.bg ?_|refine aa.aC ?_|intro _|refine aa.aA ?_)
  all_goals exact Tp
end Sh
namespace Sh
open Go Bt
attribute [local irreducible] aa ACalls
variable {gl:List (Nat×List D)}
def Hj(v:Int):Bool:=decide (-32≤v∧v≤31)
def rP(f n:Int)(p:Int×Int):Bool:=Hj p.1&&Hj p.2&&inS (32*(n%fA f)+p.1) (fW f)&&inS (32*(n/fA f)+p.2) (fH f)
theorem KF{f:Int}(h:fOk f=true):2≤fA f∧fA f≤88∧2≤fD f∧fD f≤72:=by
 have hb:=qj h;have:f=1∨f=2∨f=3∨f=4∨f=5∨f=6:=by omega
 rcases this with rfl|rfl|rfl|rfl|rfl|rfl<;>decide
attribute [local irreducible] inS fW fH
theorem JJ(f n:Int)(p:Int×Int)(hf:fOk f=true)(hn:0≤n∧n<fA f*fD f):
  ACalls (cxg gl) 75 [I f,I n, .d (pD p)] [] (fun r H=>r=B (rP f n p)∧H=[]):=by
 have hc:=jM (gl:=gl) f;have hs:=zR (gl:=gl) f;rw[hf]at hs;have hb:=KF hf;have hw:=Sb f;have hh:=Sg f;have hm:0≤fA f*fD f∧fA f*fD f≤88*72:=⟨Int.mul_nonneg (by omega) (by omega),Int.mul_le_mul (by omega) (by omega) (by omega) (by omega)⟩;obtain⟨d1,d2,d3,d4,d5,d6,d7,d8⟩:=zq n (fA f) hn.1 (by omega);unfold rP;generalize fA f=A at *;generalize fD f=E at *;have hm3 : -9223372036854775808≤A*E∧A*E≤9223372036854775807:=⟨by omega,by omega⟩;by_cases hx : -32≤p.1∧p.1≤31
 ·by_cases hy : -32≤p.2∧p.2≤31
  ·rw[show Hj p.1=true from decide_eq_true hx,show Hj p.2=true from decide_eq_true hy];have w1:=Bw (gl:=gl) (32*(n%A)+p.1) (fW f) (by omega);have w2:=Bw (gl:=gl) (32*(n/A)+p.2) (fH f) (by omega);generalize inS (32*(n%A)+p.1) (fW f)=b1 at *;generalize inS (32*(n/A)+p.2) (fH f)=b2 at *;cases b1;all_goals
    refine ACalls.en Tryz.func75 Tryz.ntmps75 ?_;repeat' (first|refine aa.aF ?_|((first|apply aa.q true|apply aa.qq true);rfl;rfl;rfl;rfl;first|exact True.intro|omega|(simp only[tn,Int.reduceToNat];omega)|(exact hm3)|((refine⟨?_,Nat.le_of_ble_eq_true rfl⟩;omega)))|refine aa.av (hc) ?_|refine aa.aR (hc) ?_|refine aa.av (hs) ?_|refine aa.aR (hs) ?_|refine aa.av (w1) ?_|refine aa.aR (w1) ?_|refine aa.av (w2) ?_|refine aa.aR (w2) ?_|refine aa.aV ?_|refine aa.bC ?_|refine aa.ah ?_|refine aa.ae ?_|refine aa.aB ?_|refine aa.aM ?_|refine aa.au ?_|refine aa.bw ?_|refine aa.bg ?_|refine aa.aC ?_|refine aa.iG ?_|apply aa.di|apply aa.lpU|intro _|(apply aa.gD;rfl;rfl;rfl)|refine aa.aA ?_)
    all_goals exact Tn
  ·rw[show Hj p.2=false from decide_eq_false hy,Bool.and_false];refine ACalls.en Tryz.func75 Tryz.ntmps75 ?_;repeat' (first|refine aa.aF ?_|((first|apply aa.q true|apply aa.qq true);rfl;rfl;rfl;rfl;first|exact True.intro|omega|(simp only[tn,Int.reduceToNat];omega)|(exact hm3)|((refine⟨?_,Nat.le_of_ble_eq_true rfl⟩;omega)))|refine aa.av (hc) ?_|refine aa.aR (hc) ?_|refine aa.av (hs) ?_|refine aa.aR (hs) ?_|refine aa.aV ?_|refine aa.bC ?_|refine aa.ah ?_|refine aa.ae ?_|refine aa.aB ?_|refine aa.aM ?_|refine aa.au ?_|refine aa.bw ?_|refine aa.bg ?_|refine aa.aC ?_|refine aa.iG ?_|apply aa.di|apply aa.lpU|intro _|(apply aa.gD;rfl;rfl;rfl)|refine aa.aA ?_)
   all_goals exact Tn
 ·rw[show Hj p.1=false from decide_eq_false hx];refine ACalls.en Tryz.func75 Tryz.ntmps75 ?_;repeat' (first|refine aa.aF ?_|((first|apply aa.q true|apply aa.qq true);rfl;rfl;rfl;rfl;first|exact True.intro|omega|(simp only[tn,Int.reduceToNat];omega)|(exact hm3)|((refine⟨?_,Nat.le_of_ble_eq_true rfl⟩;omega)))|refine aa.av (hc) ?_|refine aa.aR (hc) ?_|refine aa.av (hs) ?_|refine aa.aR (hs) ?_|refine aa.aV ?_|refine aa.bC ?_|refine aa.ah ?_|refine aa.ae ?_|refine aa.aB ?_|refine aa.aM ?_|refine aa.au ?_|refine aa.bw ?_|refine aa.bg ?_|refine aa.aC ?_|refine aa.iG ?_|apply aa.di|apply aa.lpU|intro _|(apply aa.gD;rfl;rfl;rfl)|refine aa.aA ?_)
  all_goals exact Tn
end Sh
namespace Sh
open Go Bt
attribute [local irreducible] aa ACalls
variable {gl:List (Nat×List D)}
attribute [local irreducible] inS fW fH fR fL
end Sh
namespace Sh
open Go Bt
attribute [local irreducible] aa ACalls
variable {gl:List (Nat×List D)}
theorem NW(es:List D)(hl:es.length≤1000000):
  ACalls (cxg gl) 209 [.d (.sl 3 es)] [] (fun r H=>r = .d (.sl 3 es)∧H=[]):=by
 refine ACalls.en Tryz.func209 Tryz.ntmps209 ?_;repeat' (first|refine aa.aF ?_|refine aa.Lp ?_|(apply aa.q true;rfl;rfl;rfl;rfl;first|exact True.intro|omega|(simp only[tn,Int.reduceToNat];omega)|(omega))|refine aa.aB ?_|refine aa.ak ?_|(refine aa.PS ?_;intro b hb;cases b)|(apply aa.nP (.d (.sl 3 es));rfl;exact cJ.own _ _ _;rfl;rfl;rfl)|(apply aa.nP (.d (.sl 3 []));rfl;exact cJ.d (bW.aU 3);rfl;rfl;rfl)|(apply aa.mX;(iterate 11 rfl);(first|rfl|(simp only[List.length_append,List.length_map,List.length_set,List.length_replicate,List.length_cons,List.length_nil];omega)|(omega));(first|(simp only[List.length_append,List.length_map,List.length_cons,List.length_nil];omega)|(omega));simp only[List.set_cons_zero,List.set_cons_succ])|(apply aa.AQ 2;rfl;rfl;(first|rfl|(simp only[List.length_append,List.length_map,List.length_set,List.length_replicate,List.length_cons,List.length_nil];omega)|(omega));simp only[List.set_cons_zero,List.set_cons_succ])|intro _)
 all_goals first|exact⟨rfl,rfl⟩|omega|(obtain rfl:=hb rfl;exact⟨rfl,rfl⟩)
end Sh
namespace Sh
open Go Bt Tc Co
attribute [local irreducible] aa ACalls
variable {gl:List (Nat×List D)}
theorem oh(l:List Ev)(hl:l.length≤1000000):ACalls (cxg gl) 209 [.d (evS l)] [] (fun r H=>r = .d (evS l)∧H=[]) :=
 NW (gl:=gl) (bS l) (by rw[fS];exact hl)
attribute [local irreducible] bS
theorem RG(c:Cel)(ok:kG c):
  ACalls (cxg gl) 144 [.d (kU c)] [] (fun r H=>r = .d (kU c)∧H=[]):=by
 have k0:=oh (gl:=gl) c.e0 ok.e0.1;have k1:=oh (gl:=gl) c.e1 ok.e1.1;have k2:=oh (gl:=gl) c.e2 ok.e2.1;have k3:=oh (gl:=gl) c.e3 ok.e3.1;have k4:=oh (gl:=gl) c.e4 ok.e4.1;have k5:=oh (gl:=gl) c.e5 ok.e5.1;refine ACalls.en Tryz.func144 Tryz.ntmps144 ?_;repeat' (first|refine aa.aF ?_|(apply aa.q true;rfl;rfl;rfl;rfl;first|exact True.intro|omega|(simp only[tn,Int.reduceToNat];omega)|(exact⟨by omega,Nat.le_of_ble_eq_true rfl⟩))|refine aa.av (k0) ?_|refine aa.av (k1) ?_|refine aa.av (k2) ?_|refine aa.av (k3) ?_|refine aa.av (k4) ?_|refine aa.av (k5) ?_|refine aa.bC ?_|refine aa.ah ?_|refine aa.ae ?_|refine aa.aH ?_|refine aa.aM ?_|refine aa.aD ?_|apply aa.di|apply aa.lpU|intro _|refine aa.aA ?_)
 all_goals exact Tn
end Sh
namespace Sh
open Go Bt Tc Co
attribute [local irreducible] aa ACalls
variable {gl:List (Nat×List D)}
structure Rw where
 head:Bool
 id:Int
 quant:Int
 cells:List Cel
def bD(l:List Cel):List D:=l.map fun c=>kU c
theorem ig(l:List Cel):(bD l).length=l.length:=by simp[bD]
theorem zu:bD []=[]:=rfl
theorem zw(l:List Cel)(c:Cel):bD (l++[c])=bD l++[kU c]:=by simp[bD]
theorem kT{l:List Cel}{k:Nat}{c:Cel}(h:l[k]?=some c):(bD l).getD (k:Int).toNat .top=kU c:=by
 simp[bD,List.getD,h]
abbrev rwD(r:Rw):D := .agg [.bool r.head,In r.id,In r.quant, .sl 18 (bD r.cells)]
def rsD(l:List Rw):List D:=l.map fun r=>rwD r
theorem ko(l:List Rw):(rsD l).length=l.length:=by simp[rsD]
theorem oH{l:List Rw}{k:Nat}{r:Rw}(h:l[k]?=some r):(rsD l).getD (k:Int).toNat .top=rwD r:=by
 simp[rsD,List.getD,h]
def cellsOf(l:List Rw):List Cel:=l.flatMap (·.cells)
theorem iz{l:List Rw}{k:Nat}{r:Rw}(h:l[k]?=some r):cellsOf (l.take (k+1))=cellsOf (l.take k)++r.cells:=by
 unfold cellsOf;rw[List.take_add_one,h,List.flatMap_append];simp
theorem pK{l:List Cel}{k:Nat}{c:Cel}(h:l[k]?=some c):l.take (k+1)=l.take k++[c]:=by
 rw[List.take_add_one,h];rfl
end Sh
namespace Sh
open Go Bt Tc Co
attribute [local irreducible] aa ACalls
variable {gl:List (Nat×List D)}
structure jX(rs:List Rw):Prop where
 few:rs.length≤1000
 cells:∀r∈rs,r.cells.length≤1000∧∀c∈r.cells,kG c
theorem rW:∀(l:List Rw),(∀r∈l,r.cells.length≤1000)→(cellsOf l).length≤1000*l.length
 |[],_=>by simp[cellsOf]
 |r::l,h=>by
  have h1:=h r List.mem_cons_self;have h2:=rW l fun x hx=>h x (List.mem_cons_of_mem _ hx)
  have e:cellsOf (r::l)=r.cells++cellsOf l:=rfl;rw[e,List.length_append,List.length_cons];omega
theorem jX.le{rs:List Rw}(h:jX rs)(i:Nat):(cellsOf (rs.take i)).length≤1000000:=by
 have h1:=rW (rs.take i) fun r hr=>(h.cells r (List.mem_of_mem_take hr)).1
 have h2:=h.few;have h3:(rs.take i).length≤1000:=by rw[List.length_take];omega
 omega
abbrev shA(h:Hd)(rs:List D)(z:Int):List AV:=[.d (Nn h.ref), .d (Nn h.flags), .d (Nn h.fmt), .d (.bool h.inter), .d (Nn h.quant), .d (.sl 1 (suD h.supp)), .d (.sl 4 rs), .d (Nn z)]
abbrev rwA(r:Rw):List AV:=[.d (.bool r.head), .d (In r.id), .d (In r.quant), .d (.sl 18 (bD r.cells))]
attribute [local irreducible] bS suD bD rsD
theorem I9(h:Hd)(rs:List Rw)(z:Int)(ok:jX rs):
  ACalls (cxg gl) 74 [.d (shD h (rsD rs) z)] [] (fun r H=>r = .d (.sl 18 (bD (cellsOf rs)))∧H=[]):=by
 have hn:=ko rs;have hf:=ok.few;have e00:bD (cellsOf (rs.take 0))=[]:=by rw[List.take_zero];exact zu
 refine ACalls.en Tryz.func74 Tryz.ntmps74 ?_;repeat (first|refine aa.aF ?_|refine aa.bh true ?_|refine aa.ah ?_|refine aa.ae ?_|refine aa.aH ?_|refine aa.aM ?_|refine aa.aD ?_|refine aa.aX ?_|refine aa.CL 3 96 18 ?_)
 refine aa.weak (env':=[(11,I ((0:Nat):Int)),(10,I ((rsD rs).length:Int)),(9, .d (.sl 4 (rsD rs))),(3, .ms 1 (bD (cellsOf (rs.take 0))).length)]) ⟨rfl,rfl,rfl,by rw[e00];rfl,trivial⟩ ?_;refine aa.loop (fun m env H=>∃i:Nat,m=rs.length-i∧i≤rs.length∧env=[(11,I (i:Int)),(10,I ((rsD rs).length:Int)),(9, .d (.sl 4 (rsD rs))),(3, .ms 1 (bD (cellsOf (rs.take i))).length)]∧H=[.cells (shA h (rsD rs) z), .arr 96 18 (bD (cellsOf (rs.take i)))]) rs.length
  ⟨0,rfl,by omega,rfl,by rw[e00]⟩ ?_
 rintro m env H ⟨i,rfl,hi,rfl,rfl⟩;rcases Nat.lt_or_ge i rs.length with hlt|hge
 ·obtain⟨r,hr⟩:∃r,rs[i]?=some r:=⟨_,List.getElem?_eq_getElem hlt⟩;have g1:=oH hr;have hrm:=List.mem_of_getElem? hr;obtain⟨hrl,hrc⟩:=ok.cells r hrm;have hX:=ok.le i;have eX:=iz hr;have hm:=ig r.cells;repeat' (first|refine aa.aF ?_|refine aa.o9 ?_|refine aa.q'd true ?_|refine aa.ah ?_|refine aa.ae ?_|refine aa.aH ?_|refine aa.aM ?_|refine aa.aD ?_|refine aa.aX ?_|intro _|refine aa.aJ ?_)
  generalize hXX:cellsOf (rs.take i)=X at *;have e0:bD X=bD (X++r.cells.take 0):=by simp
  rw[e0];refine aa.weak (env':=[(18,I ((0:Nat):Int)),(17,I ((bD r.cells).length:Int)),(16, .d (.sl 18 (bD r.cells))),(11,I (i:Int)),(10,I ((rsD rs).length:Int)),(9, .d (.sl 4 (rsD rs))),(3, .ms 1 (bD (X++r.cells.take 0)).length)]) ⟨rfl,rfl,rfl,rfl,rfl,rfl,rfl,trivial⟩ ?_;refine aa.loop (fun m env H=>∃k:Nat,m=r.cells.length-k∧k≤r.cells.length∧env=[(18,I (k:Int)),(17,I ((bD r.cells).length:Int)),(16, .d (.sl 18 (bD r.cells))),(11,I (i:Int)),(10,I ((rsD rs).length:Int)),(9, .d (.sl 4 (rsD rs))),(3, .ms 1 (bD (X++r.cells.take k)).length)]∧H=[.cells (shA h (rsD rs) z), .arr 96 18 (bD (X++r.cells.take k)), .cells (rwA r)]) r.cells.length
   ⟨0,rfl,by omega,rfl,rfl⟩ ?_
  rintro m env H ⟨k,rfl,hk,rfl,rfl⟩;rcases Nat.lt_or_ge k r.cells.length with hlt2|hge2
  ·obtain⟨c,hc⟩:∃c,r.cells[k]?=some c:=⟨_,List.getElem?_eq_getElem hlt2⟩;have g2:=kT hc;have oc:=RG (gl:=gl) c (hrc c (List.mem_of_getElem? hc));have et:bD (X++r.cells.take (k+1))=bD (X++r.cells.take k)++[kU c]:=by rw[pK hc,←List.append_assoc,zw]
   have hlen:(bD (X++r.cells.take k)).length≤2000000:=by rw[ig,List.length_append,List.length_take];omega
   repeat' (first|refine aa.aF ?_|refine aa.vp ?_|refine aa.q'j true ?_|refine aa.av (oc) ?_|refine aa.ah ?_|refine aa.ae ?_|refine aa.aH ?_|refine aa.aM ?_|refine aa.aD ?_|refine aa.aX ?_|(apply aa.mX;(iterate 11 rfl);(first|rfl|(simp only[List.length_append,List.length_map,List.length_set,List.length_replicate,List.length_cons,List.length_nil];omega)|(rw[hm];omega));(first|(simp only[List.length_append,List.length_map,List.length_cons,List.length_nil];omega)|(rw[hm];omega));simp only[List.set_cons_zero,List.set_cons_succ])|intro _|refine aa.aJ ?_)
   all_goals first
    |exact aa.jr 3 [(18,I ((k+1:Nat):Int)),(17,I ((bD r.cells).length:Int)),(16, .d (.sl 18 (bD r.cells))),(11,I (i:Int)),(10,I ((rsD rs).length:Int)),(9, .d (.sl 4 (rsD rs))),(3, .ms 1 (bD (X++r.cells.take (k+1))).length)] (r.cells.length-(k+1)) (by omega) rfl rfl rfl rfl ⟨rfl,rfl,rfl,rfl,rfl,rfl,by rw[et];rfl,trivial⟩ ⟨k+1,rfl,hlt2,rfl,by rw[et];rfl⟩
    |omega
  ·obtain rfl:k=r.cells.length:=by omega
   have et:bD (X++r.cells.take r.cells.length)=bD (cellsOf (rs.take (i+1))):=by rw[eX,List.take_length]
   rw[et];repeat' (first|refine aa.aF ?_|refine aa.bh true ?_|refine aa.ah ?_|refine aa.ae ?_|refine aa.aH ?_|refine aa.aM ?_|refine aa.aD ?_|refine aa.aX ?_|intro _|refine aa.aJ ?_)
   all_goals first
    |exact aa.jr 2 [(11,I ((i+1:Nat):Int)),(10,I ((rsD rs).length:Int)),(9, .d (.sl 4 (rsD rs))),(3, .ms 1 (bD (cellsOf (rs.take (i+1)))).length)] (rs.length-(i+1)) (by omega) rfl rfl rfl rfl ⟨rfl,rfl,rfl,rfl,trivial⟩ ⟨i+1,rfl,hlt,rfl,rfl⟩
    |omega
 ·obtain rfl:i=rs.length:=by omega
  rw[List.take_length];repeat' (first|refine aa.aF ?_|refine aa.bh true ?_|refine aa.ah ?_|refine aa.ae ?_|refine aa.aH ?_|refine aa.aM ?_|refine aa.aD ?_|refine aa.aX ?_|(apply aa.nP (.d (.sl 18 (bD (cellsOf rs))));rfl;exact cJ.own _ _ _;rfl;rfl;rfl)|(apply aa.mX;(iterate 11 rfl);(first|rfl|(simp only[List.length_append,List.length_map,List.length_set,List.length_replicate,List.length_cons,List.length_nil];omega));((simp only[List.length_append,List.length_map,List.length_cons,List.length_nil];omega));simp only[List.set_cons_zero,List.set_cons_succ])|refine aa.uG 2 ?_|intro _|refine aa.aJ ?_)
  all_goals exact Tn
end Sh
end Go.Proofs.YtbpednchkndocaaGreatDoor.Av
