/- Sheets as arguments: whatever a sheet is by its type, it reads as rows of cells. Sheets that are light. A sheet's digits: the document's answer. The law SheetoutPuts. -/
import Derived.Test.YtbpednchkndocaaGreatDoorPy5
import Derived.Test.YtbpednchkndocaaGreatDoorPy4
set_option linter.unusedVariables false
set_option linter.unusedSimpArgs false
set_option maxRecDepth 100000
set_option maxHeartbeats 64000000
namespace Go.Proofs.YtbpednchkndocaaGreatDoor.Av
section
open Go
def CW (e f:D):Prop:=e.cells.length=f.cells.length∧(∀c∈f.cells,c.one=true)∧∀(j:Nat) (c d:D),e.cells[j]?=some c→f.cells[j]?=some d→d9 c d
theorem d9.sl {sz:Nat} {es fs:List D} (hl:es.length=fs.length) (h:∀(i:Nat) (e f:D),es[i]?=some e→fs[i]?=some f→CW e f):d9 (.sl sz es) (.sl sz fs):=fun imm v hv=>by
 have at_:∀{i:Nat} {f:D},fs[i]?=some f→∃e,es[i]?=some e∧CW e f:=fun {i f} hf=>by
  have hi:i<es.length:=by have:=aJ hf;omega
  exact⟨_,List.getElem?_eq_getElem hi,h i _ f (List.getElem?_eq_getElem hi) hf⟩
 cases hv with
 |sl0 a cap sz =>
  have:fs=[]:=List.eq_nil_of_length_eq_zero (by simpa using hl.symm)
  subst this
  exact .sl0 _ _ _
 |sl b o cap sz es hne hcap hsz hone hin hh =>
  rw[hl]at hcap hin ⊢
  refine .sl b o cap sz fs (fun e=>hne (List.eq_nil_of_length_eq_zero (by rw[hl,e];rfl))) hcap (fun f hf=>?_) (fun f hf=>?_) hin fun i f j d hf hd=>?_
  ·obtain⟨i,hi⟩:=List.getElem?_of_mem hf
   obtain⟨e,he,hc⟩:=at_ hi
   rw[←hc.1];exact hsz e (List.mem_of_getElem? he)
  ·obtain⟨i,hi⟩:=List.getElem?_of_mem hf
   obtain⟨e,he,hc⟩:=at_ hi
   exact hc.2.1
  ·obtain⟨e,he,hc⟩:=at_ hf
   have hj:j<e.cells.length:=by have:=aJ hd;rw[hc.1];exact this
   exact hc.2.2 j _ d (List.getElem?_eq_getElem hj) hd imm _ (hh i e j _ he (List.getElem?_eq_getElem hj))
end
namespace Sh
open Go Bt Tc Co
def Big (n:Nat):Prop:=n≤9223372036854775807
structure RwI (r:Rw):Prop where
 id:I64 r.id
 quant:I64 r.quant
 len:Big r.cells.length
 cells:∀c∈r.cells,OC c
structure StI (h:Hd) (rs:List Rw) (z:Int):Prop where
 ref:I64 h.ref
 flags:I64 h.flags
 fmt:I64 h.fmt
 quant:I64 h.quant
 zeros:I64 z
 supl:Big h.supp.length
 supp:∀n∈h.supp,I64 n
 len:Big rs.length
 rows:∀r∈rs,RwI r
end Sh
namespace Sh
open Go Bt Tc Co
attribute [local irreducible] aa ACalls
variable {gl:List (Nat×List D)}
attribute [local irreducible] cn suD dZ rsD cellsOf
end Sh
namespace Sh
open Go Bt Co
attribute [local irreducible] aa ACalls
variable {gl:List (Nat×List D)}
attribute [local irreducible] Tc.cn suD dZ rsD kw bO dx qo putRow ofV vD jX oP Sh.fI zw zs kr rF kF ju mvs cellsOf qP fW fR fL fH
end Sh
namespace Sh
open Go Bt Co Wr
attribute [local irreducible] aa ACalls
variable {gl:List (Nat×List D)}
attribute [local irreducible] Tc.cn suD dZ rsD kw bO dx qo mX jV oP cellsOf
def NN:Cel:=⟨0,true,0,0,0,0,0,0,0,0,0,0,[],[],[],[],[],[]⟩
def rwL:Rw:=⟨false,0,0,[NN,NN]⟩
def hdL:Hd:=⟨0,0,6,true,5,[]⟩
def hd0:Hd:=⟨0,0,0,false,0,[]⟩
section
attribute [local semireducible] Tc.cn suD dZ rsD
end
section
attribute [local semireducible] jV mX oP kw cellsOf
theorem Nh:(jV hdL [rwL,rwL] 0 0).length=56:=by decide +kernel
end
end Sh
end Go.Proofs.YtbpednchkndocaaGreatDoor.Av
namespace Go.Proofs.YtbpednchkndocaaGreatDoor.Av
namespace Si
open Go Bt Sh Co Ci Tc
attribute [local irreducible] aa ACalls aO aC bB aR bR bA bC
abbrev Ot:Hd:=⟨5,0,6,true,4,[]⟩
abbrev EQ:Cel:=⟨0,true,0,0,0,0,0,0,0,0,0,0,[],[],[],[],[],[]⟩
abbrev IX:Rw:=⟨false,0,0,[EQ,EQ]⟩
theorem Oe:shX [0,0,128,22,26,4,60] 0=(Ot,[IX,IX],0,0,56):=by kernel_rfl
theorem D6:ACalls (cxg gB) 14 [] [] (fun r H=>r=B true∧H=[]):=by
 have t1:=zl [0,0,128,22,26,4,60] 0 (by decide) (by decide)
 rw[Oe]at t1
 simp only at t1
 have er:rsD [IX,IX]=[.agg [.bool false,In 0,In 0, .sl 18 [gz EQ,gz EQ]], .agg [.bool false,In 0,In 0, .sl 18 [gz EQ,gz EQ]]]:=rfl
 rw[er]at t1
 refine ACalls.en Tryz.func14 Tryz.ntmps14 ?_
 repeat' (first|refine aa.aD ?_|(apply aa.q true;rfl;rfl;rfl;rfl;first|exact True.intro|omega|(simp only[tn,Int.reduceToNat];omega)|((simp only[List.length_cons,List.length_nil];omega)))|refine aa.az [] ( zQ [0,0,128,22,26,4,60]) ?_|refine aa.az [0] ( t1) ?_|refine aa.aG ?_|refine aa.aA ?_|refine aa.aj ?_|intro _|refine aa.av ?_)
 all_goals first|exact⟨rfl,rfl⟩|omega
theorem K6 {s:List UInt8} {p:Nat} (h:(shX s p).2.2.2.1≠0):shX s p=(hd0,[],0,(shX s p).2.2.2.1,p):=by
 unfold shX shH at h ⊢
 by_cases h0:(hdT s p).2.1≠0
 ·rw[if_pos h0]
 ·rw[if_neg h0]at h ⊢
  unfold shT at h ⊢
  by_cases h1:(bhX (hdT s p).1 s (hdT s p).2.2).2.2.1≠0
  ·rw[if_pos h1]
  ·rw[if_neg h1]at h
   exact absurd rfl h
theorem K9 {h:Hd} {rs:List Rw} {z:Int} (hf:mX h rs z=true) (hc:∀r∈rs,∀c∈r.cells,vM c):Ic rs:=by
 obtain⟨h1,h2,h3,h4⟩:=rL hf
 obtain⟨h5,_⟩:=EB hf
 have hAL:=yu h5
 refine⟨by omega,fun r hr=>⟨?_,hc r hr⟩⟩
 obtain⟨i,hi⟩:=List.getElem?_of_mem hr
 have:=zu (zt h4 (aJ hi) hi)
 omega
theorem LU {h:Hd} {rs:List Rw} {z:Int} (hf:mX h rs z=true):h.supp.length≤8:=by
 obtain⟨h1,_⟩:=rL hf
 exact (uX h1).1.2.2.2.2
attribute [local irreducible] shX Tc.cn suD dZ rsD mX kR jV
end Si
namespace Si
open Go Bt Sh Co Ci Tc Wr
attribute [local irreducible] aa ACalls aO aC bB aR bR bA bC
theorem yH (s:List UInt8) (i:Nat) (h:i<s.length):bt s i=((s[i].toNat:Nat):Int):=by
 unfold bt
 rw[List.getD_eq_getElem?_getD,List.getElem?_eq_getElem h];rfl
attribute [local irreducible] shX Tc.cn suD dZ rsD mX kR jV dx W bO
end Si
end Go.Proofs.YtbpednchkndocaaGreatDoor.Av
namespace Go.Proofs.YtbpednchkndocaaGreatDoor.Av
namespace Si
open Go Bt
attribute [local irreducible] aa ACalls aO aC bB aR
variable {gl:List (Nat×List D)}
def z8L:List UInt8:=[48,48,48,48,48,48,48,48]
theorem KI:z8L=([0,0,0,0,0,0,0,0]:List Int).map bM:=rfl
theorem KH (s:List UInt8) (r:Nat) (h:r+8≤8*s.length):((aS s).take (r+8)).drop r=z8L↔8≤Mk.zer (ak s r):=by
 have hz:=nu (ak s r) 8 (cO s r) (by rw[bY];omega)
 rw[Mk.ou,KI,←hz]
 constructor
 ·intro e
  rw[Mk.qA _ _ (dQ s r 8) (by decide) e];rfl
 ·intro e
  rw[Mk.xU 8 _ [0,0,0,0,0,0,0,0] (take_len s r 8 h) rfl (dQ s r 8) (by decide) (by rw[e];rfl)]
attribute [local irreducible] aS ak
theorem FL (s:List UInt8) (q:Nat) (hs:s.length≤1000000) (hq:q≤8*s.length) (h8:q%8=0):ACalls (cxg gl) 66 [S (aS s),I (q:Int)] [] (fun r H=>r=I (zrX s q:Nat)∧H=[]):=by
 have hl:=cZ s
 refine ACalls.en Tryz.func66 Tryz.ntmps66 ?_
 repeat (first|refine aa.aD ?_|refine aa.bh true ?_|refine aa.ae ?_|refine aa.af ?_|refine aa.au ?_|refine aa.aj ?_|refine aa.bL ?_|refine aa.bq ?_|refine aa.aK ?_|refine aa.bD ?_|refine aa.aB ?_)
 refine aa.weak (env':=[(5,I ((0:Nat):Int)),(1,I (q:Int)),(0,S (aS s))]) ⟨rfl,rfl,rfl,trivial⟩ ?_
 refine aa.loop (fun m env H=>∃n:Nat,m=8*s.length - (q+8*n)∧q+8*n≤8*s.length∧ZrI s q n∧env=[(5,I (n:Int)),(1,I (q:Int)),(0,S (aS s))]∧H=[]) (8*s.length - q)
  ⟨0,rfl,by omega,⟨by omega,by omega⟩,rfl,rfl⟩ ?_
 rintro m env H ⟨n,rfl,hn,hI,rfl,rfl⟩
 have ra:=Mk.F8 (gl:=gl) s (q+8*n) (by omega) hn
 have eq:((q+8*n:Nat):Int)=(q:Int)+8*(n:Int):=by omega
 rw[eq]at ra
 have za:=ML (s:=s) (q:=q) (n:=n) hq hI
 have ze:=KF (s:=s) (q:=q) (n:=n) hI
 have zn:=MK (s:=s) (q:=q) (n:=n) h8 hI
 have zx:=Ij (s:=s) (q:=q) (n:=n) hI
 generalize Mk.atB s (q+8*n)=A at *
 obtain⟨v,e⟩:=A
 simp only at ra za zn zx
 by_cases he:e=0
 ·rw[za he]
  repeat' (first|refine aa.aD ?_|refine aa.bh true ?_|refine aa.ah (ra) ?_|refine aa.ae ?_|refine aa.af ?_|refine aa.au ?_|refine aa.aj ?_|refine aa.bL ?_|refine aa.bq ?_|refine aa.aK ?_|refine aa.bD ?_|refine aa.aB ?_|intro _|refine aa.aP ?_)
  all_goals first|exact⟨rfl,rfl⟩|omega
 ·by_cases hend:q+8*n=8*s.length
  ·rw[ze hend]
   repeat' (first|refine aa.aD ?_|refine aa.bh true ?_|refine aa.ah (ra) ?_|refine aa.ae ?_|refine aa.af ?_|refine aa.au ?_|refine aa.aj ?_|refine aa.bL ?_|refine aa.bq ?_|refine aa.aK ?_|refine aa.bD ?_|refine aa.aB ?_|intro _|refine aa.aP ?_)
   all_goals first|exact⟨rfl,rfl⟩|omega
  ·have zi:=KH s (q+8*n) (by omega)
   have hsh:=vV s q (8*n) hI.zer
   rw[hsh]at zi
   have w3:List.drop ((q:Int)+8*(n:Int)).toNat (List.take ((q:Int)+8*(n:Int)+8).toNat (aS s))=((aS s).take (q+8*n+8)).drop (q+8*n):=by
    rw[show ((q:Int)+8*(n:Int)).toNat=q+8*n by omega,show ((q:Int)+8*(n:Int)+8).toNat=q+8*n+8 by omega]
   rw[←w3]at zi
   by_cases hz:8*(n+1)≤Mk.zer (ak s q)
   ·have t1:(!decide (List.drop ((q:Int)+8*(n:Int)).toNat (List.take ((q:Int)+8*(n:Int)+8).toNat (aS s))=z8L))=false:=by
     rw[decide_eq_true (zi.2 (by omega))];rfl
    have hx:=zx he hz
    repeat' (first|refine aa.aD ?_|refine aa.bh true ?_|refine aa.ah (ra) ?_|refine aa.ae ?_|refine aa.af ?_|refine aa.au ?_|refine aa.aj ?_|refine aa.bL ?_|refine aa.bq ?_|(apply aa.cBT;rfl;first|(simp only[bT];omega)|(exact t1))|(apply aa.cBF;rfl;first|(simp only[bF];omega)|exact ndF rfl|(exact t1))|refine aa.aB ?_|intro _|refine aa.aP ?_)
    all_goals first
     |exact aa.round [(5,I ((n+1:Nat):Int)),(1,I (q:Int)),(0,S (aS s))] (8*s.length - (q+8*(n+1))) (by omega) ⟨rfl,rfl,rfl,trivial⟩ ⟨n+1,rfl,by omega,hx,rfl,rfl⟩
     |omega
   ·have t1:(!decide (List.drop ((q:Int)+8*(n:Int)).toNat (List.take ((q:Int)+8*(n:Int)+8).toNat (aS s))=z8L))=true:=by
     rw[decide_eq_false (fun h=>hz (by have:=zi.1 h;omega))];rfl
    rw[zn (by omega) he (by omega)]
    repeat' (first|refine aa.aD ?_|refine aa.bh true ?_|refine aa.ah (ra) ?_|refine aa.ae ?_|refine aa.af ?_|refine aa.au ?_|refine aa.aj ?_|refine aa.bL ?_|refine aa.bq ?_|(apply aa.cBT;rfl;first|(simp only[bT];omega)|(exact t1))|(apply aa.cBF;rfl;first|(simp only[bF];omega)|exact ndF rfl|(exact t1))|refine aa.aB ?_|intro _|refine aa.aP ?_)
    all_goals first|exact⟨rfl,rfl⟩|omega
end Si
end Go.Proofs.YtbpednchkndocaaGreatDoor.Av
