/- strings.Trim of binary digits; what may be a row. strings.Trim of the two digits; prefix.right. Maps of rows and of symbols, as the tables hold them. prefix's add: a code is taken in, or not. -/
import Derived.Test.YtbpednchkndocaaGreatDoorPd
import Derived.Test.YtbpednchkndocaaGreatDoorPm
set_option linter.unusedVariables false
set_option linter.unusedSimpArgs false
set_option maxRecDepth 100000
set_option maxHeartbeats 64000000
namespace Go.Proofs.YtbpednchkndocaaGreatDoor.Av
namespace Px
open Go Bt
attribute [local irreducible] aa ACalls
variable {gl:List (Nat×List D)}
def qC:List D:=((List.replicate 256 (D.bool false)).set 48 (.bool true)).set 49 (.bool true)
def tQ:List AV:=qC.map .d
theorem IJ:tQ=((List.replicate 256 (B false)).set 48 (B true)).set 49 (B true):=by
 unfold tQ qC
 rw[List.map_set,List.map_set,List.map_replicate]
theorem Fs (c:Int) (h:0≤c∧c≤255):tQ[0+c.toNat*1]?=some (B (decide (c=48)||decide (c=49))):=by
 obtain⟨n,rfl⟩:=Int.eq_ofNat_of_zero_le h.1
 rw[IJ,show 0+((n:Int)).toNat*1=n by omega,List.getElem?_set,List.getElem?_set]
 simp only[List.length_set,List.length_replicate,List.getElem?_replicate]
 by_cases h9:n=49
 ·subst h9;simp
 ·by_cases h8:n=48
  ·subst h8;simp
  ·rw[if_neg (by omega),if_neg (by omega),if_pos (by omega)]
   have e1:¬((n:Int)=48):=by omega
   have e2:¬((n:Int)=49):=by omega
   simp[e1,e2]
theorem uJ (c:Int) (h:0≤c∧c≤255):ACalls (cxg gl) 329 [.ptr 0 0, .d (.int .u8 c)] [.cells tQ] (fun r H=>r=B (decide (c=48)||decide (c=49))∧H=[.cells tQ]):=by
 have g1:=Fs c h
 refine ACalls.en Tryz.func329 Tryz.ntmps329 ?_
 repeat' (first|refine aa.bN true ?_|(apply aa.NA;(iterate 8 rfl);exact g1)|intro _|refine aa.bA ?_)
 all_goals exact⟨rfl,rfl⟩
def trR (s:List UInt8):List UInt8:=(s.reverse.dropWhile bC).reverse
def trL (s:List UInt8):List UInt8:=s.dropWhile bC
theorem yA (s:List UInt8) (c:UInt8):trR (s++[c])=if bC c=true then trR s else s++[c]:=by
 unfold trR
 rw[List.reverse_append,List.reverse_singleton,List.singleton_append,List.dropWhile_cons]
 split
 ·rfl
 ·simp
theorem KN (s:List UInt8):trL (trR s)=[]↔s.all bC=true:=by
 have h1:∀l:List UInt8,l.dropWhile bC=[]↔l.all bC=true:=fun l=>by
  induction l with
  |nil=>simp
  |cons c l ih =>
   rw[List.dropWhile_cons,List.all_cons]
   cases hc:bC c with
   |true=>simpa using ih
   |false=>simp
 have h2:trR s=[]↔s.all bC=true:=by
  unfold trR
  rw[List.reverse_eq_nil_iff,h1,List.all_reverse]
 unfold trL
 rw[h1]
 constructor
 ·intro h
  refine kW (P:=fun s=>(trR s).all bC=true→s.all bC=true) (fun _=>rfl) (fun l c ih h=>?_) s h
  rw[yA]at h
  split at h
  ·rename_i hc
   rw[List.all_append,ih h]
   simp[hc]
  ·exact h
 ·intro h
  rw[h2.2 h];rfl
theorem Hq (c:UInt8):(decide ((c.toNat:Int)=48)||decide ((c.toNat:Int)=49))=bC c:=by
 unfold bC
 have h8:=mr (c:=c) (n:=48) (by omega)
 have h9:=mr (c:=c) (n:=49) (by omega)
 have e8:decide ((c.toNat:Int)=48)=decide (c=48):=decide_eq_decide.2 h8
 have e9:decide ((c.toNat:Int)=49)=decide (c=49):=decide_eq_decide.2 h9
 rw[e8,e9]
attribute [local irreducible] trR trL bC
theorem Ik (s:List UInt8) (hs:s.length≤9223372036854775807):ACalls (cxg gl) 326 [S s, .ptr 0 0] [.cells tQ] (fun r H=>r=S (trR s)∧H=[.cells tQ]):=by
 refine ACalls.en Tryz.func326 Tryz.ntmps326 ?_
 repeat (first|refine aa.dG ?_)
 refine aa.weak (env':=[(0,S s),(1, .ptr 0 0)]) ⟨rfl,rfl,trivial⟩ ?_
 refine aa.loop (fun m env H=>∃t:List UInt8,m=t.length∧t.length≤s.length∧trR t=trR s∧env=[(0,S t),(1, .ptr 0 0)]∧H=[.cells tQ]) s.length
  ⟨s,rfl,Nat.le_refl _,rfl,rfl,rfl⟩ ?_
 rintro m env H ⟨t,rfl,hl,ht,rfl,rfl⟩
 rcases List.eq_nil_or_concat t with rfl|⟨u,c,rfl⟩
 ·rw[←ht]
  repeat' (first|intro _|refine aa.aR ?_)
  all_goals exact⟨by unfold trR;rfl,rfl⟩
 ·have hln:(u.concat c).length=u.length+1:=by simp
  have hb:bt (u.concat c) (((u.concat c).length:Int) - 1).toNat=(c.toNat:Int):=xY _ _ _ (by rw[hln,show (((u.length+1:Nat):Int) - 1).toNat=u.length by omega];simp)
  have hc:=uJ (gl:=gl) (bt (u.concat c) (((u.concat c).length:Int) - 1).toNat) (wB _ _)
  rw[hb,Hq,←hb]at hc
  have hd:(u.concat c).take (((u.concat c).length:Int) - 1).toNat=u:=by rw[hln,show (((u.length+1:Nat):Int) - 1).toNat=u.length by omega];simp
  have ht':=ht
  rw[List.concat_eq_append,yA]at ht'
  cases hdc:bC c with
  |true =>
   rw[hdc]at hc
   rw[if_pos hdc]at ht'
   repeat' (first|refine aa.ah [0] ( hc) ?_|intro _|refine aa.aR ?_)
   exact aa.round [(0,S u),(1, .ptr 0 0)] u.length (by omega) ⟨congrArg S hd,rfl,trivial⟩ ⟨u,rfl,by omega,ht',rfl,rfl⟩
  |false =>
   rw[hdc]at hc
   rw[if_neg (by rw[hdc];decide)]at ht'
   rw[←ht']
   repeat' (first|refine aa.ah [0] ( hc) ?_|intro _|refine aa.aR ?_)
   all_goals exact⟨by rw[List.concat_eq_append],rfl⟩
theorem Il (s:List UInt8) (hs:s.length≤9223372036854775807):ACalls (cxg gl) 325 [S s, .ptr 0 0] [.cells tQ] (fun r H=>r=S (trL s)∧H=[.cells tQ]):=by
 refine ACalls.en Tryz.func325 Tryz.ntmps325 ?_
 repeat (first|refine aa.dG ?_)
 refine aa.weak (env':=[(0,S s),(1, .ptr 0 0)]) ⟨rfl,rfl,trivial⟩ ?_
 refine aa.loop (fun m env H=>∃t:List UInt8,m=t.length∧t.length≤s.length∧trL t=trL s∧env=[(0,S t),(1, .ptr 0 0)]∧H=[.cells tQ]) s.length
  ⟨s,rfl,Nat.le_refl _,rfl,rfl,rfl⟩ ?_
 rintro m env H ⟨t,rfl,hl,ht,rfl,rfl⟩
 cases t with
 |nil =>
  rw[←ht]
  repeat' (first|intro _|refine aa.aR ?_)
  all_goals exact⟨by unfold trL;rfl,rfl⟩
 |cons c u =>
  have hln:(c::u).length=u.length+1:=rfl
  have hb:bt (c::u) (Int.toNat 0)=(c.toNat:Int):=rfl
  have hc:=uJ (gl:=gl) (bt (c::u) (Int.toNat 0)) (wB _ _)
  rw[hb,Hq,←hb]at hc
  have ht':=ht
  unfold trL at ht'
  rw[List.dropWhile_cons]at ht'
  cases hdc:bC c with
  |true =>
   rw[hdc]at hc
   rw[if_pos hdc]at ht'
   repeat' (first|refine aa.ah [0] ( hc) ?_|intro _|refine aa.aR ?_)
   exact aa.round [(0,S u),(1, .ptr 0 0)] u.length (by omega) ⟨rfl,rfl,trivial⟩ ⟨u,rfl,by omega,by unfold trL;exact ht',rfl,rfl⟩
  |false =>
   rw[hdc]at hc
   rw[if_neg (by rw[hdc];decide)]at ht'
   have e:trL s=c::u:=by unfold trL;exact ht'.symm
   rw[e]
   repeat' (first|refine aa.ah [0] ( hc) ?_|intro _|refine aa.aR ?_)
   all_goals exact⟨rfl,rfl⟩
end Px
namespace Px
open Go Bt
attribute [local irreducible] aa ACalls
variable {gl:List (Nat×List D)}
theorem Ea:ACalls (cxg gl) 324 [S [48,49]] [] (fun r H=>r = .aX [.d (.agg qC),B true]∧H=[]):=by
 refine ACalls.en Tryz.func324 Tryz.ntmps324 ?_
 repeat (first|refine aa.dG ?_)
 refine aa.bO ?_
 repeat (first|(apply aa.q true;rfl;rfl;rfl;rfl;first|exact True.intro|omega|(simp only[tn,Int.reduceToNat];omega)|decide)|refine aa.dG ?_)
 refine aa.lpU ?_
 repeat (first|(apply aa.q true;rfl;rfl;rfl;rfl;first|exact True.intro|omega|(simp only[tn,Int.reduceToNat];omega)|decide)|refine aa.dG ?_)
 refine aa.lpU ?_
 repeat (first|(apply aa.q true;rfl;rfl;rfl;rfl;first|exact True.intro|omega|(simp only[tn,Int.reduceToNat];omega)|decide)|refine aa.dG ?_)
 (apply aa.yP;rfl;rfl;rfl;rfl)
 exact⟨rfl,rfl⟩
attribute [local irreducible] trR trL bC
theorem trim_c (s:List UInt8) (hs:s.length≤9223372036854775807):ACalls (cxg gl) 318 [S s,S [48,49]] [] (fun r H=>r=S (trL (trR s))∧H=[]):=by
 have hl:(trR s).length≤9223372036854775807:=by
  have:(trR s).length≤s.length:=by
   unfold trR
   rw[List.length_reverse]
   refine Nat.le_trans (List.Sublist.length_le (List.dropWhile_sublist _)) ?_
   rw[List.length_reverse];exact Nat.le_refl _
  omega
 have h1:=Ik (gl:=gl) s hs
 have h2:=Il (gl:=gl) (trR s) hl
 by_cases h0:s=[]
 ·subst h0
  have e:trL (trR [])=[]:=by unfold trL trR;rfl
  rw[e]
  refine ACalls.en Tryz.func318 Tryz.ntmps318 ?_
  repeat' (first|intro _|refine aa.bA ?_)
  all_goals exact⟨rfl,rfl⟩
 ·have k1:(decide (s=({ data:=#[] }:ByteArray).data.toList))=false:=decide_eq_false (by intro h;exact h0 h)
  refine ACalls.en Tryz.func318 Tryz.ntmps318 ?_
  repeat' (first|refine aa.ah [0] ( h1) ?_|refine aa.ah [0] ( h2) ?_|refine aa.ae (Ea) ?_|intro _|refine aa.bA ?_)
  all_goals first|exact⟨rfl,rfl⟩|(exfalso;simp_all)
def jb (row:List UInt8):Bool:=!decide (row=[])&&decide (row.length≤24)&&row.all bC
theorem sj (s:List UInt8) (hs:s.length≤9223372036854775807):ACalls (cxg gl) 316 [S s] [] (fun r H=>r=B (jb s)∧H=[]):=by
 have ht:=trim_c (gl:=gl) s hs
 have hn:=KN s
 by_cases h0:s=[]
 ·subst h0
  refine ACalls.en Tryz.func316 Tryz.ntmps316 ?_
  repeat' (first|intro _|refine aa.aR ?_)
  all_goals exact⟨rfl,rfl⟩
 ·have k1:(!decide (s=({ data:=#[] }:ByteArray).data.toList))=true:=by
   have:decide (s=({ data:=#[] }:ByteArray).data.toList)=false:=decide_eq_false (by intro h;exact h0 h)
   rw[this];rfl
  by_cases h24:s.length≤24
  ·have e:jb s=s.all bC:=by simp[jb,h0,h24]
   rw[e]
   have e2:decide (trL (trR s)=({ data:=#[] }:ByteArray).data.toList)=s.all bC:=by
    rw[Bool.eq_iff_iff,decide_eq_true_iff];exact hn
   refine ACalls.en Tryz.func316 Tryz.ntmps316 ?_
   repeat' (first|refine aa.bN true ?_|refine aa.ae (ht) ?_|(apply aa.gBT;rfl;rfl;rfl;first|(simp only[bT];omega)|(exact k1))|(apply aa.gBF;rfl;rfl;rfl;first|(simp only[bF];omega)|exact ndF rfl|(exact k1))|intro _|refine aa.bA ?_)
   all_goals first|exact⟨congrArg B (by rw[e2];simp[h0,h24]),rfl⟩|(exfalso;simp_all)
  ·have e:jb s=false:=by simp[jb,h24]
   rw[e]
   refine ACalls.en Tryz.func316 Tryz.ntmps316 ?_
   repeat' (first|refine aa.bN true ?_|refine aa.ae (ht) ?_|(apply aa.gBT;rfl;rfl;rfl;first|(simp only[bT];omega)|(exact k1))|(apply aa.gBF;rfl;rfl;rfl;first|(simp only[bF];omega)|exact ndF rfl|(exact k1))|intro _|refine aa.bA ?_)
   all_goals first|exact⟨rfl,rfl⟩|exact⟨congrArg B (by simp),rfl⟩|(exfalso;simp_all)
end Px
namespace Px
open Go Bt
def bG (l:List (List UInt8×Int)):List (D×D):=l.map fun p=>(.str p.1, .int .i64 p.2)
def dJ (l:List (Int×Int)):List (D×D):=l.map fun p=>(.int .i64 p.1, .int .i64 p.2)
def cB {α:Type} [DecidableEq α] (w:α):List (α×Int)→Nat→Option (Nat×Int)
 |[],_=>none
 |(k,v)::r,i=>if w=k then some (i,v) else cB w r (i+1)
theorem cV (w:List UInt8):∀(l:List (List UInt8×Int)) (i:Nat),iM (.str w) (bG l) i=some ((cB w l i).map fun p=>(p.1, .int .i64 p.2))
 |[],i=>rfl
 |(k,v)::r,i=>by
  simp only[bG,List.map_cons,iM,Ee,cB]
  by_cases h:w=k
  ·rw[if_pos h,decide_eq_true h];rfl
  ·rw[if_neg h,decide_eq_false h]
   exact cV w r (i+1)
theorem oF (w:Int):∀(l:List (Int×Int)) (i:Nat),iM (.int .i64 w) (dJ l) i=some ((cB w l i).map fun p=>(p.1, .int .i64 p.2))
 |[],i=>rfl
 |(k,v)::r,i=>by
  simp only[dJ,List.map_cons,iM,Ee,cB,decide_true,cond_true]
  by_cases h:w=k
  ·rw[if_pos h,decide_eq_true h];rfl
  ·rw[if_neg h,decide_eq_false h]
   exact oF w r (i+1)
def gW {α:Type} [DecidableEq α] (w:α) (l:List (α×Int)):Int:=match cB w l 0 with|some (_,v)=>v|none=>0
def xH {α:Type} [DecidableEq α] (l:List (α×Int)) (w:α) (v:Int):List (α×Int):=match cB w l 0 with
 |some (i,_)=>l.modify i fun p=>(p.1,v)
 |none=>l++[(w,v)]
theorem jp (l:List (List UInt8×Int)) (w:List UInt8) (v:Int):pJ (bG l) (.str w) (.int .i64 v) ((cB w l 0).map fun p=>(p.1, .int .i64 p.2))=bG (xH l w v):=by
 unfold xH
 cases hf:cB w l 0 with
 |none=>simp[pJ,bG]
 |some jv =>
  obtain⟨j,u⟩:=jv
  simp only[Option.map_some,pJ,gQ,bG]
  apply List.ext_getElem?
  intro i
  simp only[List.getElem?_modify,List.getElem?_map]
  cases hi:l[i]? with
  |none=>simp
  |some p =>
   by_cases e:j=i<;>simp[e]
theorem kJ {α:Type} [DecidableEq α] (w:α):∀(l:List (α×Int)) (i:Nat),cB w l i=(cB w l 0).map fun p=>(p.1+i,p.2)
 |[],i=>rfl
 |(k,v)::r,i=>by
  simp only[cB]
  by_cases h:w=k
  ·simp[h]
  ·rw[if_neg h,if_neg h,kJ w r (i+1),kJ w r (0+1)]
   cases cB w r 0 with
   |none=>rfl
   |some p=>simp;omega
theorem GM {α:Type} [DecidableEq α] (w:α):gW w ([]:List (α×Int))=0:=rfl
theorem lj {α:Type} [DecidableEq α] (w k:α) (v:Int) (r:List (α×Int)):gW w ((k,v)::r)=if w=k then v else gW w r:=by
 unfold gW
 simp only[cB]
 by_cases h:w=k
 ·simp[h]
 ·rw[if_neg h,if_neg h,kJ w r (0+1)]
  cases cB w r 0<;>simp
theorem GQ {α:Type} [DecidableEq α] (w:α) (v:Int):xH ([]:List (α×Int)) w v=[(w,v)]:=rfl
theorem Ei {α:Type} [DecidableEq α] (w k:α) (v u:Int) (r:List (α×Int)):xH ((k,u)::r) w v=if w=k then (k,v)::r else (k,u)::xH r w v:=by
 unfold xH
 simp only[cB]
 by_cases h:w=k
 ·simp[h]
 ·rw[if_neg h,if_neg h,kJ w r (0+1)]
  cases cB w r 0 with
  |none=>simp
  |some p=>simp[List.modify_succ_cons]
theorem uA {α:Type} [DecidableEq α] (x w:α) (v:Int):∀l:List (α×Int),gW x (xH l w v)=if x=w then v else gW x l
 |[]=>by rw[GQ,lj]
 |(k,u)::r=>by
  rw[Ei]
  by_cases h:w=k
  ·subst h
   rw[if_pos rfl,lj,lj]
   by_cases h2:x=w<;>simp[h2]
  ·rw[if_neg h,lj,lj,uA x w v r]
   by_cases h2:x=k
   ·subst h2
    rw[if_pos rfl,if_pos rfl,if_neg (fun e=>h e.symm)]
   ·rw[if_neg h2,if_neg h2]
def bU (row:List UInt8):Nat→List (List UInt8×Int)→List (List UInt8×Int)
 |0,l=>l
 |k+1,l=>xH (bU row k l) (row.take (k+1)) (gW (row.take (k+1)) (bU row k l)+1)
theorem kw (row:List UInt8) (l:List (List UInt8×Int)) (N:Int) (h:∀w,0≤gW w l∧gW w l≤N):∀(k:Nat) (w:List UInt8),0≤gW w (bU row k l)∧gW w (bU row k l)≤N+k
 |0,w=>by have:=h w;simp[bU];omega
 |k+1,w=>by
  have h1:=kw row l N h k w
  have h2:=kw row l N h k (row.take (k+1))
  rw[bU,uA]
  split<;>omega
def kr (p:List UInt8×Int):D := .agg [.str p.1, .int .i64 p.2]
def aT (l:List (List UInt8×Int)):List D:=l.map kr
theorem dm (l:List (List UInt8×Int)):(aT l).length=l.length:=by simp[aT]
theorem rP (l:List (List UInt8×Int)) (p:List UInt8×Int):aT (l++[p])=aT l++[kr p]:=by simp[aT]
structure Tb where
 codes:List (List UInt8×Int)
 sym:List (List UInt8×Int)
 rws:List (Int×Int)
 beg:List (List UInt8×Int)
 lng:Int
def vp (t:Tb) (row:List UInt8) (sy:Int):Bool :=
 (cB sy t.rws 0).isNone&&jb row&&decide (gW row t.beg≤0)&&(List.range row.length).all fun n=>(cB (row.take (n+1)) t.sym 0).isNone
def eX (t:Tb) (row:List UInt8) (sy:Int):Tb :=
 ⟨t.codes++[(row,sy)],t.sym++[(row,(t.codes.length:Int))],t.rws++[(sy,(t.codes.length:Int))],bU row row.length t.beg,max t.lng row.length⟩
def KP (t:Tb):List au:=[.cells [.d .aG, .mp 1, .mp 2, .mp 3,I t.lng], .map (bG t.sym), .map (dJ t.rws), .map (bG t.beg)]
def Iq (t:Tb):List au:=[.cells [.own 2 (aT t.codes) 4, .mp 1, .mp 2, .mp 3,I t.lng], .map (bG t.sym), .map (dJ t.rws), .map (bG t.beg), .front 321 2 (aT t.codes).length]
end Px
namespace Px
open Go Bt
attribute [local irreducible] aa ACalls
variable {gl:List (Nat×List D)}
theorem gb (l:List (D×D)) (k z v:D) (n:Int) (hn:n=(l.length:Int)):gQ (l++[(k,z)]) n.toNat v=l++[(k,v)]:=by
 subst hn
 unfold gQ
 rw[Int.toNat_natCast]
 induction l with
 |nil=>rfl
 |cons x l ih=>simpa[List.modify_succ_cons]using ih
theorem nD (l:List (List UInt8×Int)) (w:List UInt8) (v:Int):bG (l++[(w,v)])=bG l++[(.str w, .int .i64 v)]:=by simp[bG]
theorem nO (l:List (Int×Int)) (w:Int) (v:Int):dJ (l++[(w,v)])=dJ l++[(.int .i64 w, .int .i64 v)]:=by simp[dJ]
theorem uX (t:Tb) (row:List UInt8) (sy:Int):vp t row sy=true↔cB sy t.rws 0=none∧jb row=true∧gW row t.beg≤0∧∀n,n<row.length→cB (row.take (n+1)) t.sym 0=none:=by
 unfold vp
 simp only[Bool.and_eq_true,Option.isNone_iff_eq_none,decide_eq_true_eq,List.all_eq_true,List.mem_range,and_assoc]
theorem eP {α:Type} [DecidableEq α] {w:α} {l:List (α×Int)} {j:Nat} {v:Int} (h:cB w l 0=some (j,v)):gW w l=v:=by unfold gW;rw[h]
theorem li {α:Type} [DecidableEq α] {w:α} {l:List (α×Int)} (h:cB w l 0=none):gW w l=0:=by unfold gW;rw[h]
theorem tk1 (row:List UInt8) (k:Nat):row.take ((k:Int)+1).toNat=row.take (k+1):=by rw[show ((k:Int)+1).toNat=k+1 by omega]
attribute [local irreducible] bG dJ aT jb bU
end Px
end Go.Proofs.YtbpednchkndocaaGreatDoor.Av
