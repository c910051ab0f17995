/- Sheets, to the document, are the same as themselves. -/
import Derived.Test.YtbpednchkndocaaGreatDoorSm0
set_option linter.unusedVariables false
set_option linter.unusedSimpArgs false
set_option maxRecDepth 100000
set_option maxHeartbeats 64000000
namespace Go.Proofs.YtbpednchkndocaaGreatDoor.Av
namespace Sh
open Go Bt Tc Co
attribute [local irreducible] aa ACalls
variable {gl:List (Nat×List D)}
attribute [local irreducible] Tc.bB suD dw rsD
abbrev shL (h:Hd) (rs:List D) (z:Int):List D:=[Nn h.ref,Nn h.flags,Nn h.fmt, .bool h.inter,Nn h.quant, .sl 1 (suD h.supp), .sl 4 rs,Nn z]
theorem oV (h:Hd) (rs:List Rw) (z:Int) (hf:rs.length≤1000000) (hcl:∀r∈rs,r.cells.length≤1000000) (hl:h.supp.length≤100) (hb:∀r∈rs,∀c∈r.cells,Cs.yl c):ACalls (cxg gl) 18 [.d (shD h (rsD rs) z), .d (shD h (rsD rs) z)] [] (fun r H=>r=B true∧H=[]):=by
 have hn:=wP rs
 have s24:=DL (gl:=gl) h (rsD rs) (rsD rs) z z hl
 refine ACalls.en Tryz.func18 Tryz.ntmps18 ?_
 repeat' (first|refine aa.Fv 0 2 ?_|refine aa.Fv 1 3 ?_|refine aa.ae (s24) ?_|intro _|refine aa.aR ?_)
 refine aa.weak (env':=[(5,I ((0:Nat):Int)),(3, .d (.iptr (shL h (rsD rs) z))),(2, .d (.iptr (shL h (rsD rs) z)))]) ⟨rfl,rfl,rfl,trivial⟩ ?_
 refine aa.loop (fun m env H=>∃i:Nat,m=rs.length - i∧i≤rs.length∧env=[(5,I (i:Int)),(3, .d (.iptr (shL h (rsD rs) z))),(2, .d (.iptr (shL h (rsD rs) z)))]∧H=[.gone, .gone]) rs.length
  ⟨0,rfl,by omega,rfl,rfl⟩ ?_
 rintro m env H ⟨i,rfl,hi,rfl,rfl⟩
 rcases Nat.lt_or_ge i rs.length with hlt|hge
 ·obtain⟨r,hr⟩:∃r,rs[i]?=some r:=⟨_,List.getElem?_eq_getElem hlt⟩
  have g1:=IP hr
  have hrm:=List.mem_of_getElem? hr
  have hrl:=hcl r hrm
  have hm:=nR r.cells
  have hcb:=hb r hrm
  repeat' (first|(apply aa.Mi [0,1,2,3,4,5,6,7,8,9,10,11,12,13] 14;rfl)|(apply iW.aK;rfl;(apply eM;(iterate 7 rfl);(first|omega|(rw[hn];omega));exact g1);exact fun _ _ _ h=>h;(iterate 5 rfl);kernel_rfl;kernel_rfl)|(apply iW.aK;rfl;(apply aA.q true;rfl;rfl;first|exact True.intro|omega|(rw[hn];omega));exact fun _ _ _ h=>h;(iterate 5 rfl);kernel_rfl;kernel_rfl)|refine iW.bD ?_|(apply iW.go)|refine fE.bg ?_|refine fE.jM ?_|(apply fE.gJ;rfl;kernel_rfl)|refine jg.cg ?_|(apply fE.back)|(apply aa.Nu)|(apply aa.Nt)|(apply aa.q true;rfl;rfl;rfl;rfl;first|exact True.intro|omega|(simp only[tn,Int.reduceToNat];omega)|(rw[hn];omega))|intro _|refine aa.aR ?_)
  ·refine aa.weak (env':=[(8,I ((0:Nat):Int)),(7, .ptr 3 0),(6, .ptr 2 0),(5,I (i:Int)),(3, .d (.iptr (shL h (rsD rs) z))),(2, .d (.iptr (shL h (rsD rs) z)))]) ⟨rfl,rfl,rfl,rfl,rfl,rfl,trivial⟩ ?_
   refine aa.loop (fun m env H=>∃k:Nat,m=r.cells.length - k∧k≤r.cells.length∧env=[(8,I (k:Int)),(7, .ptr 3 0),(6, .ptr 2 0),(5,I (i:Int)),(3, .d (.iptr (shL h (rsD rs) z))),(2, .d (.iptr (shL h (rsD rs) z)))]∧H=[.gone, .gone, .cells (rwA r), .cells (rwA r)]) r.cells.length
    ⟨0,rfl,by omega,rfl,rfl⟩ ?_
   rintro m env H ⟨k,rfl,hk,rfl,rfl⟩
   rcases Nat.lt_or_ge k r.cells.length with hlt2|hge2
   ·obtain⟨c,hc⟩:∃c,r.cells[k]?=some c:=⟨_,List.getElem?_eq_getElem hlt2⟩
    have g2:=wu hc
    have s21:=Cs.oW (gl:=gl) c (hcb c (List.mem_of_getElem? hc))
    repeat' (first|(apply aa.bE [0,1,2,3,4,5,6,7,8,9,10,11] 12 12;rfl)|(apply av.aK;rfl;(apply eM;(iterate 7 rfl);(first|omega|(rw[hm];omega));exact g2);exact fun _ _ _ h=>h;(iterate 6 rfl);kernel_rfl;kernel_rfl)|(apply av.aK;rfl;(apply aA.q true;rfl;rfl;first|exact True.intro|omega|(rw[hm];omega));exact fun _ _ _ h=>h;(iterate 6 rfl);kernel_rfl;kernel_rfl)|(apply av.load;rfl;rfl;(first|exact True.intro|omega|(rw[hm];omega));exact fun _ _ _ h=>h;(iterate 6 rfl);kernel_rfl;kernel_rfl)|(apply av.go)|refine ai.bg ?_|(apply ai.aK;rfl;(apply eM;(iterate 7 rfl);(first|omega|(rw[hm];omega));exact g2);exact fun _ _ _ h=>h;(iterate 6 rfl);kernel_rfl;kernel_rfl)|(apply ai.aK;rfl;(apply aA.q true;rfl;rfl;first|exact True.intro|omega|(rw[hm];omega));exact fun _ _ _ h=>h;(iterate 6 rfl);kernel_rfl;kernel_rfl)|refine ai.aj (s21) ?_|(exact aa.bP)|(apply aa.q true;rfl;rfl;rfl;rfl;first|exact True.intro|omega|(simp only[tn,Int.reduceToNat];omega)|(rw[hm];omega))|refine aa.ae (s21) ?_|intro _|refine aa.aR ?_)
    all_goals first
     |exact aa.round [(8,I ((k+1:Nat):Int)),(7, .ptr 3 0),(6, .ptr 2 0),(5,I (i:Int)),(3, .d (.iptr (shL h (rsD rs) z))),(2, .d (.iptr (shL h (rsD rs) z)))] (r.cells.length - (k+1)) (by omega) ⟨rfl,rfl,rfl,rfl,rfl,rfl,trivial⟩ ⟨k+1,rfl,hlt2,rfl,rfl⟩
     |omega
   ·repeat' (first|(apply aa.q true;rfl;rfl;rfl;rfl;first|exact True.intro|omega|(simp only[tn,Int.reduceToNat];omega)|(rw[hm];omega))|intro _|refine aa.aR ?_)
    all_goals first
     |exact aa.iI 2 [(5,I ((i+1:Nat):Int)),(3, .d (.iptr (shL h (rsD rs) z))),(2, .d (.iptr (shL h (rsD rs) z)))] (rs.length - (i+1)) (by omega) rfl rfl rfl rfl ⟨rfl,rfl,rfl,trivial⟩ ⟨i+1,rfl,hlt,rfl,rfl⟩
     |omega
  ·refine aa.weak (env':=[(8,I ((0:Nat):Int)),(7, .ptr 2 0),(6, .ptr 3 0),(5,I (i:Int)),(3, .d (.iptr (shL h (rsD rs) z))),(2, .d (.iptr (shL h (rsD rs) z)))]) ⟨rfl,rfl,rfl,rfl,rfl,rfl,trivial⟩ ?_
   refine aa.loop (fun m env H=>∃k:Nat,m=r.cells.length - k∧k≤r.cells.length∧env=[(8,I (k:Int)),(7, .ptr 2 0),(6, .ptr 3 0),(5,I (i:Int)),(3, .d (.iptr (shL h (rsD rs) z))),(2, .d (.iptr (shL h (rsD rs) z)))]∧H=[.gone, .gone, .cells (rwA r), .cells (rwA r)]) r.cells.length
    ⟨0,rfl,by omega,rfl,rfl⟩ ?_
   rintro m env H ⟨k,rfl,hk,rfl,rfl⟩
   rcases Nat.lt_or_ge k r.cells.length with hlt2|hge2
   ·obtain⟨c,hc⟩:∃c,r.cells[k]?=some c:=⟨_,List.getElem?_eq_getElem hlt2⟩
    have g2:=wu hc
    have s21:=Cs.oW (gl:=gl) c (hcb c (List.mem_of_getElem? hc))
    repeat' (first|(apply aa.bE [0,1,2,3,4,5,6,7,8,9,10,11] 12 12;rfl)|(apply av.aK;rfl;(apply eM;(iterate 7 rfl);(first|omega|(rw[hm];omega));exact g2);exact fun _ _ _ h=>h;(iterate 6 rfl);kernel_rfl;kernel_rfl)|(apply av.aK;rfl;(apply aA.q true;rfl;rfl;first|exact True.intro|omega|(rw[hm];omega));exact fun _ _ _ h=>h;(iterate 6 rfl);kernel_rfl;kernel_rfl)|(apply av.load;rfl;rfl;(first|exact True.intro|omega|(rw[hm];omega));exact fun _ _ _ h=>h;(iterate 6 rfl);kernel_rfl;kernel_rfl)|(apply av.go)|refine ai.bg ?_|(apply ai.aK;rfl;(apply eM;(iterate 7 rfl);(first|omega|(rw[hm];omega));exact g2);exact fun _ _ _ h=>h;(iterate 6 rfl);kernel_rfl;kernel_rfl)|(apply ai.aK;rfl;(apply aA.q true;rfl;rfl;first|exact True.intro|omega|(rw[hm];omega));exact fun _ _ _ h=>h;(iterate 6 rfl);kernel_rfl;kernel_rfl)|refine ai.aj (s21) ?_|(exact aa.bP)|(apply aa.q true;rfl;rfl;rfl;rfl;first|exact True.intro|omega|(simp only[tn,Int.reduceToNat];omega)|(rw[hm];omega))|refine aa.ae (s21) ?_|intro _|refine aa.aR ?_)
    all_goals first
     |exact aa.round [(8,I ((k+1:Nat):Int)),(7, .ptr 2 0),(6, .ptr 3 0),(5,I (i:Int)),(3, .d (.iptr (shL h (rsD rs) z))),(2, .d (.iptr (shL h (rsD rs) z)))] (r.cells.length - (k+1)) (by omega) ⟨rfl,rfl,rfl,rfl,rfl,rfl,trivial⟩ ⟨k+1,rfl,hlt2,rfl,rfl⟩
     |omega
   ·repeat' (first|(apply aa.q true;rfl;rfl;rfl;rfl;first|exact True.intro|omega|(simp only[tn,Int.reduceToNat];omega)|(rw[hm];omega))|intro _|refine aa.aR ?_)
    all_goals first
     |exact aa.iI 2 [(5,I ((i+1:Nat):Int)),(3, .d (.iptr (shL h (rsD rs) z))),(2, .d (.iptr (shL h (rsD rs) z)))] (rs.length - (i+1)) (by omega) rfl rfl rfl rfl ⟨rfl,rfl,rfl,trivial⟩ ⟨i+1,rfl,hlt,rfl,rfl⟩
     |omega
 ·repeat' (first|(apply aa.q true;rfl;rfl;rfl;rfl;first|exact True.intro|omega|(simp only[tn,Int.reduceToNat];omega)|(rw[hn];omega))|intro _|refine aa.aR ?_)
  all_goals first|exact⟨rfl,rfl⟩|omega
end Sh
end Go.Proofs.YtbpednchkndocaaGreatDoor.Av
