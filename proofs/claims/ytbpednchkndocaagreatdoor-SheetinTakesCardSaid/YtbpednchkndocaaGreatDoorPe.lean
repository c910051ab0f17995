/- strings.Trim of binary digits; what may be a row. strings.Trim of the two digits; prefix.right. Maps of rows and of symbols, as the tables hold them. prefix's add: a code is taken in, or not. -/
import Derived.Test.YtbpednchkndocaaGreatDoorPd
import Derived.Test.YtbpednchkndocaaGreatDoorPm
set_option linter.unusedVariables false
set_option linter.unusedSimpArgs false
set_option maxRecDepth 100000
set_option maxHeartbeats 64000000
namespace Go.Proofs.YtbpednchkndocaaGreatDoor.Av
namespace Px
open Go Bt
attribute [local irreducible] aa ACalls
variable {gl:List (Nat×List D)}
def rB:List D:=((List.replicate 256 (D.bool false)).set 48 (.bool true)).set 49 (.bool true)
def uC:List AV:=rB.map .d
theorem IU:uC=((List.replicate 256 (B false)).set 48 (B true)).set 49 (B true):=by
 unfold uC rB
 rw[List.map_set,List.map_set,List.map_replicate]
theorem FH (c:Int) (h:0≤c∧c≤255):uC[0+c.toNat*1]?=some (B (decide (c=48)||decide (c=49))):=by
 obtain⟨n,rfl⟩:=Int.eq_ofNat_of_zero_le h.1
 rw[IU,show 0+((n:Int)).toNat*1=n by omega,List.getElem?_set,List.getElem?_set]
 simp only[List.length_set,List.length_replicate,List.getElem?_replicate]
 by_cases h9:n=49
 ·subst h9;simp
 ·by_cases h8:n=48
  ·subst h8;simp
  ·rw[if_neg (by omega),if_neg (by omega),if_pos (by omega)]
   have e1:¬((n:Int)=48):=by omega
   have e2:¬((n:Int)=49):=by omega
   simp[e1,e2]
theorem vp (c:Int) (h:0≤c∧c≤255):ACalls (cxg gl) 329 [.ptr 0 0, .d (.int .u8 c)] [.cells uC] (fun r H=>r=B (decide (c=48)||decide (c=49))∧H=[.cells uC]):=by
 have g1:=FH c h
 refine ACalls.en Tryz.func329 Tryz.ntmps329 ?_
 repeat' (first|refine aa.aD ?_|refine aa.bh true ?_|(apply aa.Nv;(iterate 8 rfl);exact g1)|intro _|refine aa.av ?_)
 all_goals exact⟨rfl,rfl⟩
def trR (s:List UInt8):List UInt8:=(s.reverse.dropWhile bZ).reverse
def trL (s:List UInt8):List UInt8:=s.dropWhile bZ
theorem yZ (s:List UInt8) (c:UInt8):trR (s++[c])=if bZ c=true then trR s else s++[c]:=by
 unfold trR
 rw[List.reverse_append,List.reverse_singleton,List.singleton_append,List.dropWhile_cons]
 split
 ·rfl
 ·simp
theorem KP (s:List UInt8):trL (trR s)=[]↔s.all bZ=true:=by
 have h1:∀l:List UInt8,l.dropWhile bZ=[]↔l.all bZ=true:=fun l=>by
  induction l with
  |nil=>simp
  |cons c l ih =>
   rw[List.dropWhile_cons,List.all_cons]
   cases hc:bZ c with
   |true=>simpa using ih
   |false=>simp
 have h2:trR s=[]↔s.all bZ=true:=by
  unfold trR
  rw[List.reverse_eq_nil_iff,h1,List.all_reverse]
 unfold trL
 rw[h1]
 constructor
 ·intro h
  refine lY (P:=fun s=>(trR s).all bZ=true→s.all bZ=true) (fun _=>rfl) (fun l c ih h=>?_) s h
  rw[yZ]at h
  split at h
  ·rename_i hc
   rw[List.all_append,ih h]
   simp[hc]
  ·exact h
 ·intro h
  rw[h2.2 h];rfl
theorem HB (c:UInt8):(decide ((c.toNat:Int)=48)||decide ((c.toNat:Int)=49))=bZ c:=by
 unfold bZ
 have h8:=nE (c:=c) (n:=48) (by omega)
 have h9:=nE (c:=c) (n:=49) (by omega)
 have e8:decide ((c.toNat:Int)=48)=decide (c=48):=decide_eq_decide.2 h8
 have e9:decide ((c.toNat:Int)=49)=decide (c=49):=decide_eq_decide.2 h9
 rw[e8,e9]
attribute [local irreducible] trR trL bZ
theorem Iy (s:List UInt8) (hs:s.length≤9223372036854775807):ACalls (cxg gl) 326 [S s, .ptr 0 0] [.cells uC] (fun r H=>r=S (trR s)∧H=[.cells uC]):=by
 refine ACalls.en Tryz.func326 Tryz.ntmps326 ?_
 repeat (first|refine aa.aD ?_|refine aa.bh true ?_|refine aa.ae ?_|refine aa.au ?_|refine aa.ai ?_)
 refine aa.weak (env':=[(0,S s),(1, .ptr 0 0)]) ⟨rfl,rfl,trivial⟩ ?_
 refine aa.loop (fun m env H=>∃t:List UInt8,m=t.length∧t.length≤s.length∧trR t=trR s∧env=[(0,S t),(1, .ptr 0 0)]∧H=[.cells uC]) s.length
  ⟨s,rfl,Nat.le_refl _,rfl,rfl,rfl⟩ ?_
 rintro m env H ⟨t,rfl,hl,ht,rfl,rfl⟩
 rcases List.eq_nil_or_concat t with rfl|⟨u,c,rfl⟩
 ·rw[←ht]
  repeat' (first|refine aa.aD ?_|refine aa.bh true ?_|refine aa.ae ?_|refine aa.au ?_|refine aa.ai ?_|intro _|refine aa.av ?_|refine aa.aI ?_)
  all_goals exact⟨by unfold trR;rfl,rfl⟩
 ·have hln:(u.concat c).length=u.length+1:=by simp
  have hb:bt (u.concat c) (((u.concat c).length:Int) - 1).toNat=(c.toNat:Int):=yH _ _ _ (by rw[hln,show (((u.length+1:Nat):Int) - 1).toNat=u.length by omega];simp)
  have hc:=vp (gl:=gl) (bt (u.concat c) (((u.concat c).length:Int) - 1).toNat) (wZ _ _)
  rw[hb,HB,←hb]at hc
  have hd:(u.concat c).take (((u.concat c).length:Int) - 1).toNat=u:=by rw[hln,show (((u.length+1:Nat):Int) - 1).toNat=u.length by omega];simp
  have ht':=ht
  rw[List.concat_eq_append,yZ]at ht'
  cases hdc:bZ c with
  |true =>
   rw[hdc]at hc
   rw[if_pos hdc]at ht'
   repeat' (first|refine aa.aD ?_|refine aa.bh true ?_|refine aa.az [0] ( hc) ?_|refine aa.ae ?_|refine aa.au ?_|refine aa.ai ?_|intro _|refine aa.av ?_|refine aa.aI ?_)
   exact aa.round [(0,S u),(1, .ptr 0 0)] u.length (by omega) ⟨congrArg S hd,rfl,trivial⟩ ⟨u,rfl,by omega,ht',rfl,rfl⟩
  |false =>
   rw[hdc]at hc
   rw[if_neg (by rw[hdc];decide)]at ht'
   rw[←ht']
   repeat' (first|refine aa.aD ?_|refine aa.bh true ?_|refine aa.az [0] ( hc) ?_|refine aa.ae ?_|refine aa.au ?_|refine aa.ai ?_|intro _|refine aa.av ?_|refine aa.aI ?_)
   all_goals exact⟨by rw[List.concat_eq_append],rfl⟩
theorem Iz (s:List UInt8) (hs:s.length≤9223372036854775807):ACalls (cxg gl) 325 [S s, .ptr 0 0] [.cells uC] (fun r H=>r=S (trL s)∧H=[.cells uC]):=by
 refine ACalls.en Tryz.func325 Tryz.ntmps325 ?_
 repeat (first|refine aa.aD ?_|refine aa.bh true ?_|refine aa.ae ?_|refine aa.au ?_|refine aa.ai ?_)
 refine aa.weak (env':=[(0,S s),(1, .ptr 0 0)]) ⟨rfl,rfl,trivial⟩ ?_
 refine aa.loop (fun m env H=>∃t:List UInt8,m=t.length∧t.length≤s.length∧trL t=trL s∧env=[(0,S t),(1, .ptr 0 0)]∧H=[.cells uC]) s.length
  ⟨s,rfl,Nat.le_refl _,rfl,rfl,rfl⟩ ?_
 rintro m env H ⟨t,rfl,hl,ht,rfl,rfl⟩
 cases t with
 |nil =>
  rw[←ht]
  repeat' (first|refine aa.aD ?_|refine aa.bh true ?_|refine aa.ae ?_|refine aa.au ?_|refine aa.ai ?_|intro _|refine aa.av ?_|refine aa.aI ?_)
  all_goals exact⟨by unfold trL;rfl,rfl⟩
 |cons c u =>
  have hln:(c::u).length=u.length+1:=rfl
  have hb:bt (c::u) (Int.toNat 0)=(c.toNat:Int):=rfl
  have hc:=vp (gl:=gl) (bt (c::u) (Int.toNat 0)) (wZ _ _)
  rw[hb,HB,←hb]at hc
  have ht':=ht
  unfold trL at ht'
  rw[List.dropWhile_cons]at ht'
  cases hdc:bZ c with
  |true =>
   rw[hdc]at hc
   rw[if_pos hdc]at ht'
   repeat' (first|refine aa.aD ?_|refine aa.bh true ?_|refine aa.az [0] ( hc) ?_|refine aa.ae ?_|refine aa.au ?_|refine aa.ai ?_|intro _|refine aa.av ?_|refine aa.aI ?_)
   exact aa.round [(0,S u),(1, .ptr 0 0)] u.length (by omega) ⟨rfl,rfl,trivial⟩ ⟨u,rfl,by omega,by unfold trL;exact ht',rfl,rfl⟩
  |false =>
   rw[hdc]at hc
   rw[if_neg (by rw[hdc];decide)]at ht'
   have e:trL s=c::u:=by unfold trL;exact ht'.symm
   rw[e]
   repeat' (first|refine aa.aD ?_|refine aa.bh true ?_|refine aa.az [0] ( hc) ?_|refine aa.ae ?_|refine aa.au ?_|refine aa.ai ?_|intro _|refine aa.av ?_|refine aa.aI ?_)
   all_goals exact⟨rfl,rfl⟩
end Px
namespace Px
open Go Bt
attribute [local irreducible] aa ACalls
variable {gl:List (Nat×List D)}
theorem Er:ACalls (cxg gl) 324 [S [48,49]] [] (fun r H=>r = .bK [.d (.agg rB),B true]∧H=[]):=by
 refine ACalls.en Tryz.func324 Tryz.ntmps324 ?_
 repeat (first|refine aa.aD ?_|refine aa.bh true ?_|refine aa.aW ?_|refine aa.au ?_|refine aa.ai ?_|refine aa.aG ?_|refine aa.aA ?_)
 refine aa.cK ?_
 repeat (first|refine aa.aD ?_|(apply aa.q true;rfl;rfl;rfl;rfl;first|exact True.intro|omega|(simp only[tn,Int.reduceToNat];omega)|decide)|refine aa.aW ?_|refine aa.au ?_|refine aa.ai ?_|refine aa.aG ?_|refine aa.aA ?_)
 refine aa.lpU ?_
 repeat (first|refine aa.aD ?_|(apply aa.q true;rfl;rfl;rfl;rfl;first|exact True.intro|omega|(simp only[tn,Int.reduceToNat];omega)|decide)|refine aa.aW ?_|refine aa.au ?_|refine aa.ai ?_|refine aa.aG ?_|refine aa.aA ?_)
 refine aa.lpU ?_
 repeat (first|refine aa.aD ?_|(apply aa.q true;rfl;rfl;rfl;rfl;first|exact True.intro|omega|(simp only[tn,Int.reduceToNat];omega)|decide)|refine aa.aW ?_|refine aa.au ?_|refine aa.ai ?_|refine aa.aG ?_|refine aa.aA ?_)
 (apply aa.zy;rfl;rfl;rfl;rfl)
 exact⟨rfl,rfl⟩
attribute [local irreducible] trR trL bZ
theorem trim_c (s:List UInt8) (hs:s.length≤9223372036854775807):ACalls (cxg gl) 318 [S s,S [48,49]] [] (fun r H=>r=S (trL (trR s))∧H=[]):=by
 have hl:(trR s).length≤9223372036854775807:=by
  have:(trR s).length≤s.length:=by
   unfold trR
   rw[List.length_reverse]
   refine Nat.le_trans (List.Sublist.length_le (List.dropWhile_sublist _)) ?_
   rw[List.length_reverse];exact Nat.le_refl _
  omega
 have h1:=Iy (gl:=gl) s hs
 have h2:=Iz (gl:=gl) (trR s) hl
 by_cases h0:s=[]
 ·subst h0
  have e:trL (trR [])=[]:=by unfold trL trR;rfl
  rw[e]
  refine ACalls.en Tryz.func318 Tryz.ntmps318 ?_
  repeat' (first|refine aa.aD ?_|refine aa.bh true ?_|refine aa.au ?_|refine aa.ai ?_|refine aa.aG ?_|refine aa.aA ?_|refine aa.aj ?_|refine aa.bL ?_|refine aa.bq ?_|refine aa.aB ?_|intro _|refine aa.av ?_)
  all_goals exact⟨rfl,rfl⟩
 ·have k1:(decide (s=({ data:=#[] }:ByteArray).data.toList))=false:=decide_eq_false (by intro h;exact h0 h)
  refine ACalls.en Tryz.func318 Tryz.ntmps318 ?_
  repeat' (first|refine aa.aD ?_|refine aa.bh true ?_|refine aa.az [0] ( h1) ?_|refine aa.az [0] ( h2) ?_|refine aa.ah (Er) ?_|refine aa.au ?_|refine aa.ai ?_|refine aa.aG ?_|refine aa.aA ?_|refine aa.aj ?_|refine aa.bL ?_|refine aa.bq ?_|refine aa.aB ?_|intro _|refine aa.av ?_)
  all_goals first|exact⟨rfl,rfl⟩|(exfalso;simp_all)
def jI (row:List UInt8):Bool:=!decide (row=[])&&decide (row.length≤24)&&row.all bZ
theorem tE (s:List UInt8) (hs:s.length≤9223372036854775807):ACalls (cxg gl) 316 [S s] [] (fun r H=>r=B (jI s)∧H=[]):=by
 have ht:=trim_c (gl:=gl) s hs
 have hn:=KP s
 by_cases h0:s=[]
 ·subst h0
  refine ACalls.en Tryz.func316 Tryz.ntmps316 ?_
  repeat' (first|refine aa.aD ?_|refine aa.bh true ?_|refine aa.aj ?_|refine aa.bL ?_|refine aa.bq ?_|refine aa.df ?_|refine aa.dN ?_|refine aa.aB ?_|intro _|refine aa.av ?_)
  all_goals exact⟨rfl,rfl⟩
 ·have k1:(!decide (s=({ data:=#[] }:ByteArray).data.toList))=true:=by
   have:decide (s=({ data:=#[] }:ByteArray).data.toList)=false:=decide_eq_false (by intro h;exact h0 h)
   rw[this];rfl
  by_cases h24:s.length≤24
  ·have e:jI s=s.all bZ:=by simp[jI,h0,h24]
   rw[e]
   have e2:decide (trL (trR s)=({ data:=#[] }:ByteArray).data.toList)=s.all bZ:=by
    rw[Bool.eq_iff_iff,decide_eq_true_iff];exact hn
   refine ACalls.en Tryz.func316 Tryz.ntmps316 ?_
   repeat' (first|refine aa.aD ?_|refine aa.bh true ?_|refine aa.ah (ht) ?_|refine aa.aj ?_|refine aa.bL ?_|refine aa.bq ?_|(apply aa.gBT;rfl;rfl;rfl;first|(simp only[bT];omega)|(exact k1))|(apply aa.gBF;rfl;rfl;rfl;first|(simp only[bF];omega)|exact ndF rfl|(exact k1))|refine aa.aB ?_|intro _|refine aa.av ?_)
   all_goals first|exact⟨congrArg B (by rw[e2];simp[h0,h24]),rfl⟩|(exfalso;simp_all)
  ·have e:jI s=false:=by simp[jI,h24]
   rw[e]
   refine ACalls.en Tryz.func316 Tryz.ntmps316 ?_
   repeat' (first|refine aa.aD ?_|refine aa.bh true ?_|refine aa.ah (ht) ?_|refine aa.aj ?_|refine aa.bL ?_|refine aa.bq ?_|(apply aa.gBT;rfl;rfl;rfl;first|(simp only[bT];omega)|(exact k1))|(apply aa.gBF;rfl;rfl;rfl;first|(simp only[bF];omega)|exact ndF rfl|(exact k1))|refine aa.aB ?_|intro _|refine aa.av ?_)
   all_goals first|exact⟨rfl,rfl⟩|exact⟨congrArg B (by simp),rfl⟩|(exfalso;simp_all)
end Px
namespace Px
open Go Bt
def cz (l:List (List UInt8×Int)):List (D×D):=l.map fun p=>(.str p.1, .int .i64 p.2)
def eM (l:List (Int×Int)):List (D×D):=l.map fun p=>(.int .i64 p.1, .int .i64 p.2)
def dB {α:Type} [DecidableEq α] (w:α):List (α×Int)→Nat→Option (Nat×Int)
 |[],_=>none
 |(k,v)::r,i=>if w=k then some (i,v) else dB w r (i+1)
theorem dO (w:List UInt8):∀(l:List (List UInt8×Int)) (i:Nat),jp (.str w) (cz l) i=some ((dB w l i).map fun p=>(p.1, .int .i64 p.2))
 |[],i=>rfl
 |(k,v)::r,i=>by
  simp only[cz,List.map_cons,jp,Ew,dB]
  by_cases h:w=k
  ·rw[if_pos h,decide_eq_true h];rfl
  ·rw[if_neg h,decide_eq_false h]
   exact dO w r (i+1)
theorem pR (w:Int):∀(l:List (Int×Int)) (i:Nat),jp (.int .i64 w) (eM l) i=some ((dB w l i).map fun p=>(p.1, .int .i64 p.2))
 |[],i=>rfl
 |(k,v)::r,i=>by
  simp only[eM,List.map_cons,jp,Ew,dB,decide_true,cond_true]
  by_cases h:w=k
  ·rw[if_pos h,decide_eq_true h];rfl
  ·rw[if_neg h,decide_eq_false h]
   exact pR w r (i+1)
def iM {α:Type} [DecidableEq α] (w:α) (l:List (α×Int)):Int:=match dB w l 0 with|some (_,v)=>v|none=>0
def ym {α:Type} [DecidableEq α] (l:List (α×Int)) (w:α) (v:Int):List (α×Int):=match dB w l 0 with
 |some (i,_)=>l.modify i fun p=>(p.1,v)
 |none=>l++[(w,v)]
theorem jU (l:List (List UInt8×Int)) (w:List UInt8) (v:Int):qw (cz l) (.str w) (.int .i64 v) ((dB w l 0).map fun p=>(p.1, .int .i64 p.2))=cz (ym l w v):=by
 unfold ym
 cases hf:dB w l 0 with
 |none=>simp[qw,cz]
 |some jv =>
  obtain⟨j,u⟩:=jv
  simp only[Option.map_some,qw,iJ,cz]
  apply List.ext_getElem?
  intro i
  simp only[List.getElem?_modify,List.getElem?_map]
  cases hi:l[i]? with
  |none=>simp
  |some p =>
   by_cases e:j=i<;>simp[e]
theorem lJ {α:Type} [DecidableEq α] (w:α):∀(l:List (α×Int)) (i:Nat),dB w l i=(dB w l 0).map fun p=>(p.1+i,p.2)
 |[],i=>rfl
 |(k,v)::r,i=>by
  simp only[dB]
  by_cases h:w=k
  ·simp[h]
  ·rw[if_neg h,if_neg h,lJ w r (i+1),lJ w r (0+1)]
   cases dB w r 0 with
   |none=>rfl
   |some p=>simp;omega
theorem G6 {α:Type} [DecidableEq α] (w:α):iM w ([]:List (α×Int))=0:=rfl
theorem mh {α:Type} [DecidableEq α] (w k:α) (v:Int) (r:List (α×Int)):iM w ((k,v)::r)=if w=k then v else iM w r:=by
 unfold iM
 simp only[dB]
 by_cases h:w=k
 ·simp[h]
 ·rw[if_neg h,if_neg h,lJ w r (0+1)]
  cases dB w r 0<;>simp
theorem G8 {α:Type} [DecidableEq α] (w:α) (v:Int):ym ([]:List (α×Int)) w v=[(w,v)]:=rfl
theorem EA {α:Type} [DecidableEq α] (w k:α) (v u:Int) (r:List (α×Int)):ym ((k,u)::r) w v=if w=k then (k,v)::r else (k,u)::ym r w v:=by
 unfold ym
 simp only[dB]
 by_cases h:w=k
 ·simp[h]
 ·rw[if_neg h,if_neg h,lJ w r (0+1)]
  cases dB w r 0 with
  |none=>simp
  |some p=>simp[List.modify_succ_cons]
theorem uY {α:Type} [DecidableEq α] (x w:α) (v:Int):∀l:List (α×Int),iM x (ym l w v)=if x=w then v else iM x l
 |[]=>by rw[G8,mh]
 |(k,u)::r=>by
  rw[EA]
  by_cases h:w=k
  ·subst h
   rw[if_pos rfl,mh,mh]
   by_cases h2:x=w<;>simp[h2]
  ·rw[if_neg h,mh,mh,uY x w v r]
   by_cases h2:x=k
   ·subst h2
    rw[if_pos rfl,if_pos rfl,if_neg (fun e=>h e.symm)]
   ·rw[if_neg h2,if_neg h2]
def cT (row:List UInt8):Nat→List (List UInt8×Int)→List (List UInt8×Int)
 |0,l=>l
 |k+1,l=>ym (cT row k l) (row.take (k+1)) (iM (row.take (k+1)) (cT row k l)+1)
theorem lq (row:List UInt8) (l:List (List UInt8×Int)) (N:Int) (h:∀w,0≤iM w l∧iM w l≤N):∀(k:Nat) (w:List UInt8),0≤iM w (cT row k l)∧iM w (cT row k l)≤N+k
 |0,w=>by have:=h w;simp[cT];omega
 |k+1,w=>by
  have h1:=lq row l N h k w
  have h2:=lq row l N h k (row.take (k+1))
  rw[cT,uY]
  split<;>omega
def lj (p:List UInt8×Int):D := .agg [.str p.1, .int .i64 p.2]
def bG (l:List (List UInt8×Int)):List D:=l.map lj
theorem dW (l:List (List UInt8×Int)):(bG l).length=l.length:=by simp[bG]
theorem sQ (l:List (List UInt8×Int)) (p:List UInt8×Int):bG (l++[p])=bG l++[lj p]:=by simp[bG]
structure Tb where
 codes:List (List UInt8×Int)
 sym:List (List UInt8×Int)
 rws:List (Int×Int)
 beg:List (List UInt8×Int)
 lng:Int
def vU (t:Tb) (row:List UInt8) (sy:Int):Bool :=
 (dB sy t.rws 0).isNone&&jI row&&decide (iM row t.beg≤0)&&(List.range row.length).all fun n=>(dB (row.take (n+1)) t.sym 0).isNone
def gh (t:Tb) (row:List UInt8) (sy:Int):Tb :=
 ⟨t.codes++[(row,sy)],t.sym++[(row,(t.codes.length:Int))],t.rws++[(sy,(t.codes.length:Int))],cT row row.length t.beg,max t.lng row.length⟩
def KR (t:Tb):List aM:=[.cells [.d .aY, .mp 1, .mp 2, .mp 3,I t.lng], .map (cz t.sym), .map (eM t.rws), .map (cz t.beg)]
def IE (t:Tb):List aM:=[.cells [.own 2 (bG t.codes) 4, .mp 1, .mp 2, .mp 3,I t.lng], .map (cz t.sym), .map (eM t.rws), .map (cz t.beg), .front 321 2 (bG t.codes).length]
end Px
namespace Px
open Go Bt
attribute [local irreducible] aa ACalls
variable {gl:List (Nat×List D)}
theorem ib (l:List (D×D)) (k z v:D) (n:Int) (hn:n=(l.length:Int)):iJ (l++[(k,z)]) n.toNat v=l++[(k,v)]:=by
 subst hn
 unfold iJ
 rw[Int.toNat_natCast]
 induction l with
 |nil=>rfl
 |cons x l ih=>simpa[List.modify_succ_cons]using ih
theorem oq (l:List (List UInt8×Int)) (w:List UInt8) (v:Int):cz (l++[(w,v)])=cz l++[(.str w, .int .i64 v)]:=by simp[cz]
theorem oI (l:List (Int×Int)) (w:Int) (v:Int):eM (l++[(w,v)])=eM l++[(.int .i64 w, .int .i64 v)]:=by simp[eM]
theorem vK (t:Tb) (row:List UInt8) (sy:Int):vU t row sy=true↔dB sy t.rws 0=none∧jI row=true∧iM row t.beg≤0∧∀n,n<row.length→dB (row.take (n+1)) t.sym 0=none:=by
 unfold vU
 simp only[Bool.and_eq_true,Option.isNone_iff_eq_none,decide_eq_true_eq,List.all_eq_true,List.mem_range,and_assoc]
theorem fU {α:Type} [DecidableEq α] {w:α} {l:List (α×Int)} {j:Nat} {v:Int} (h:dB w l 0=some (j,v)):iM w l=v:=by unfold iM;rw[h]
theorem mg {α:Type} [DecidableEq α] {w:α} {l:List (α×Int)} (h:dB w l 0=none):iM w l=0:=by unfold iM;rw[h]
theorem tk1 (row:List UInt8) (k:Nat):row.take ((k:Int)+1).toNat=row.take (k+1):=by rw[show ((k:Int)+1).toNat=k+1 by omega]
attribute [local irreducible] cz eM bG jI cT
end Px
end Go.Proofs.YtbpednchkndocaaGreatDoor.Av
