/- strings.Trim of binary digits; what may be a row. strings.Trim of the two digits; prefix.right. Maps of rows and of symbols, as the tables hold them. prefix's add: a code is taken in, or not. -/
import Derived.Test.YtbpednchkndocaaGreatDoorPd
import Derived.Test.YtbpednchkndocaaGreatDoorPm
set_option linter.unusedVariables false
set_option linter.unusedSimpArgs false
set_option maxRecDepth 100000
set_option maxHeartbeats 64000000
namespace Go.Proofs.YtbpednchkndocaaGreatDoor.Av
namespace Px
open Go Bt
attribute [local irreducible] aa ACalls
variable {gl:List (Nat×List D)}
def vG:List D:=((List.replicate 256 (D.bool false)).set 48 (.bool true)).set 49 (.bool true)
def wT:List AV:=vG.map .d
theorem Mt:wT=((List.replicate 256 (B false)).set 48 (B true)).set 49 (B true):=by
 unfold wT vG;rw[List.map_set,List.map_set,List.map_replicate]
theorem I8(c:Int)(h:0≤c∧c≤255):wT[0+c.toNat*1]?=some (B (decide (c=48)||decide (c=49))):=by
 obtain⟨n,rfl⟩:=Int.eq_ofNat_of_zero_le h.1;rw[Mt,show 0+((n:Int)).toNat*1=n by omega,List.getElem?_set,List.getElem?_set];simp only[List.length_set,List.length_replicate,List.getElem?_replicate];by_cases h9:n=49
 ·subst h9;simp
 ·by_cases h8:n=48
  ·subst h8;simp
  ·rw[if_neg (by omega),if_neg (by omega),if_pos (by omega)];have e1:¬((n:Int)=48):=by omega
   have e2:¬((n:Int)=49):=by omega
   simp[e1,e2]
theorem xE(c:Int)(h:0≤c∧c≤255):ACalls (cxg gl) 329 [.ptr 0 0, .d (.int .u8 c)] [.cells wT] (fun r H=>r=B (decide (c=48)||decide (c=49))∧H=[.cells wT]):=by
 have g1:=I8 c h;refine ACalls.en Tryz.func329 Tryz.ntmps329 ?_;repeat' (first|refine aa.aF ?_|refine aa.bh true ?_|(apply aa.RY;(iterate 8 rfl);exact g1)|intro _|refine aa.aA ?_)
 all_goals exact⟨rfl,rfl⟩
def trR(s:List UInt8):List UInt8:=(s.reverse.dropWhile bB).reverse
def trL(s:List UInt8):List UInt8:=s.dropWhile bB
theorem BF(s:List UInt8)(c:UInt8):trR (s++[c])=if bB c=true then trR s else s++[c]:=by
 unfold trR;rw[List.reverse_append,List.reverse_singleton,List.singleton_append,List.dropWhile_cons];split
 ·rfl
 ·simp
theorem O7(s:List UInt8):trL (trR s)=[]↔s.all bB=true:=by
 have h1:∀l:List UInt8,l.dropWhile bB=[]↔l.all bB=true:=fun l=>by
  induction l with
  |nil=>simp
  |cons c l ih =>
   rw[List.dropWhile_cons,List.all_cons];cases hc:bB c with
   |true=>simpa using ih
   |false=>simp
 have h2:trR s=[]↔s.all bB=true:=by
  unfold trR;rw[List.reverse_eq_nil_iff,h1,List.all_reverse]
 unfold trL;rw[h1];constructor
 ·intro h;refine nK (P:=fun s=>(trR s).all bB=true→s.all bB=true) (fun _=>rfl) (fun l c ih h=>?_) s h;rw[BF]at h;split at h
  ·rename_i hc;rw[List.all_append,ih h];simp[hc]
  ·exact h
 ·intro h;rw[h2.2 h];rfl
theorem KX(c:UInt8):(decide ((c.toNat:Int)=48)||decide ((c.toNat:Int)=49))=bB c:=by
 unfold bB;have h8:=sj (c:=c) (n:=48) (by omega);have h9:=sj (c:=c) (n:=49) (by omega);have e8:decide ((c.toNat:Int)=48)=decide (c=48):=decide_eq_decide.2 h8;have e9:decide ((c.toNat:Int)=49)=decide (c=49):=decide_eq_decide.2 h9;rw[e8,e9]
attribute [local irreducible] trR trL bB
theorem L8(s:List UInt8)(hs:s.length≤9223372036854775807):ACalls (cxg gl) 326 [S s, .ptr 0 0] [.cells wT] (fun r H=>r=S (trR s)∧H=[.cells wT]):=by
 refine ACalls.en Tryz.func326 Tryz.ntmps326 ?_;repeat (first|refine aa.aF ?_|refine aa.bh true ?_|refine aa.ah ?_|refine aa.aB ?_|refine aa.ak ?_)
 refine aa.weak (env':=[(0,S s),(1, .ptr 0 0)]) ⟨rfl,rfl,trivial⟩ ?_;refine aa.loop (fun m env H=>∃t:List UInt8,m=t.length∧t.length≤s.length∧trR t=trR s∧env=[(0,S t),(1, .ptr 0 0)]∧H=[.cells wT]) s.length
  ⟨s,rfl,Nat.le_refl _,rfl,rfl,rfl⟩ ?_
 rintro m env H ⟨t,rfl,hl,ht,rfl,rfl⟩;rcases List.eq_nil_or_concat t with rfl|⟨u,c,rfl⟩
 ·rw[←ht];repeat' (first|refine aa.aF ?_|refine aa.bh true ?_|refine aa.ah ?_|refine aa.aB ?_|refine aa.ak ?_|intro _|refine aa.aA ?_|refine aa.aJ ?_)
  all_goals exact⟨by unfold trR;rfl,rfl⟩
 ·have hln:(u.concat c).length=u.length+1:=by simp
  have hb:bt (u.concat c) (((u.concat c).length:Int)-1).toNat=(c.toNat:Int):=xO _ _ _ (by rw[hln,show (((u.length+1:Nat):Int)-1).toNat=u.length by omega];simp);have hc:=xE (gl:=gl) (bt (u.concat c) (((u.concat c).length:Int)-1).toNat) (Ls _ _);rw[hb,KX,←hb]at hc;have hd:(u.concat c).take (((u.concat c).length:Int)-1).toNat=u:=by rw[hln,show (((u.length+1:Nat):Int)-1).toNat=u.length by omega];simp
  have ht':=ht;rw[List.concat_eq_append,BF]at ht';cases hdc:bB c with
  |true =>
   rw[hdc]at hc;rw[if_pos hdc]at ht';repeat' (first|refine aa.aF ?_|refine aa.bh true ?_|refine aa.aj [0] (hc) ?_|refine aa.ah ?_|refine aa.aB ?_|refine aa.ak ?_|intro _|refine aa.aA ?_|refine aa.aJ ?_)
   exact aa.round [(0,S u),(1, .ptr 0 0)] u.length (by omega) ⟨congrArg S hd,rfl,trivial⟩ ⟨u,rfl,by omega,ht',rfl,rfl⟩
  |false =>
   rw[hdc]at hc;rw[if_neg (by rw[hdc];decide)]at ht';rw[←ht'];repeat' (first|refine aa.aF ?_|refine aa.bh true ?_|refine aa.aj [0] (hc) ?_|refine aa.ah ?_|refine aa.aB ?_|refine aa.ak ?_|intro _|refine aa.aA ?_|refine aa.aJ ?_)
   all_goals exact⟨by rw[List.concat_eq_append],rfl⟩
theorem L9(s:List UInt8)(hs:s.length≤9223372036854775807):ACalls (cxg gl) 325 [S s, .ptr 0 0] [.cells wT] (fun r H=>r=S (trL s)∧H=[.cells wT]):=by
 refine ACalls.en Tryz.func325 Tryz.ntmps325 ?_;repeat (first|refine aa.aF ?_|refine aa.bh true ?_|refine aa.ah ?_|refine aa.aB ?_|refine aa.ak ?_)
 refine aa.weak (env':=[(0,S s),(1, .ptr 0 0)]) ⟨rfl,rfl,trivial⟩ ?_;refine aa.loop (fun m env H=>∃t:List UInt8,m=t.length∧t.length≤s.length∧trL t=trL s∧env=[(0,S t),(1, .ptr 0 0)]∧H=[.cells wT]) s.length
  ⟨s,rfl,Nat.le_refl _,rfl,rfl,rfl⟩ ?_
 rintro m env H ⟨t,rfl,hl,ht,rfl,rfl⟩;cases t with
 |nil =>
  rw[←ht];repeat' (first|refine aa.aF ?_|refine aa.bh true ?_|refine aa.ah ?_|refine aa.aB ?_|refine aa.ak ?_|intro _|refine aa.aA ?_|refine aa.aJ ?_)
  all_goals exact⟨by unfold trL;rfl,rfl⟩
 | cons c u =>
  have hln:(c::u).length=u.length+1:=rfl;have hb:bt (c::u) (Int.toNat 0)=(c.toNat:Int):=rfl;have hc:=xE (gl:=gl) (bt (c::u) (Int.toNat 0)) (Ls _ _);rw[hb,KX,←hb]at hc;have ht':=ht;unfold trL at ht';rw[List.dropWhile_cons]at ht';cases hdc:bB c with
  |true =>
   rw[hdc]at hc;rw[if_pos hdc]at ht';repeat' (first|refine aa.aF ?_|refine aa.bh true ?_|refine aa.aj [0] (hc) ?_|refine aa.ah ?_|refine aa.aB ?_|refine aa.ak ?_|intro _|refine aa.aA ?_|refine aa.aJ ?_)
   exact aa.round [(0,S u),(1, .ptr 0 0)] u.length (by omega) ⟨rfl,rfl,trivial⟩ ⟨u,rfl,by omega,by unfold trL;exact ht',rfl,rfl⟩
  |false =>
   rw[hdc]at hc;rw[if_neg (by rw[hdc];decide)]at ht';have e:trL s=c::u:=by unfold trL;exact ht'.symm
   rw[e];repeat' (first|refine aa.aF ?_|refine aa.bh true ?_|refine aa.aj [0] (hc) ?_|refine aa.ah ?_|refine aa.aB ?_|refine aa.ak ?_|intro _|refine aa.aA ?_|refine aa.aJ ?_)
   all_goals exact⟨rfl,rfl⟩
end Px
namespace Px
open Go Bt
attribute [local irreducible] aa ACalls
variable {gl:List (Nat×List D)}
theorem Ho:ACalls (cxg gl) 324 [S [48,49]] [] (fun r H=>r = .cH [.d (.agg vG),B true]∧H=[]):=by
 refine ACalls.en Tryz.func324 Tryz.ntmps324 ?_;repeat (first|refine aa.aF ?_|refine aa.bh true ?_|refine aa.bC ?_|refine aa.aB ?_|refine aa.ak ?_|refine aa.aH ?_|refine aa.aD ?_)
 refine aa.di ?_;repeat (first|refine aa.aF ?_|(apply aa.q true;rfl;rfl;rfl;rfl;first|exact True.intro|omega|(simp only[tn,Int.reduceToNat];omega)|decide)|refine aa.bC ?_|refine aa.aB ?_|refine aa.ak ?_|refine aa.aH ?_|refine aa.aD ?_)
 refine aa.lpU ?_;repeat (first|refine aa.aF ?_|(apply aa.q true;rfl;rfl;rfl;rfl;first|exact True.intro|omega|(simp only[tn,Int.reduceToNat];omega)|decide)|refine aa.bC ?_|refine aa.aB ?_|refine aa.ak ?_|refine aa.aH ?_|refine aa.aD ?_)
 refine aa.lpU ?_;repeat (first|refine aa.aF ?_|(apply aa.q true;rfl;rfl;rfl;rfl;first|exact True.intro|omega|(simp only[tn,Int.reduceToNat];omega)|decide)|refine aa.bC ?_|refine aa.aB ?_|refine aa.ak ?_|refine aa.aH ?_|refine aa.aD ?_)
 (apply aa.Jm;rfl;rfl;rfl;rfl)
 exact⟨rfl,rfl⟩
attribute [local irreducible] trR trL bB
theorem trim_c(s:List UInt8)(hs:s.length≤9223372036854775807):ACalls (cxg gl) 318 [S s,S [48,49]] [] (fun r H=>r=S (trL (trR s))∧H=[]):=by
 have hl:(trR s).length≤9223372036854775807:=by
  have:(trR s).length≤s.length:=by
   unfold trR;rw[List.length_reverse];refine Nat.le_trans (List.Sublist.length_le (List.dropWhile_sublist _)) ?_;rw[List.length_reverse];exact Nat.le_refl _
  omega
 have h1:=L8 (gl:=gl) s hs;have h2:=L9 (gl:=gl) (trR s) hl;by_cases h0:s=[]
 ·subst h0;have e:trL (trR [])=[]:=by unfold trL trR;rfl
  rw[e];refine ACalls.en Tryz.func318 Tryz.ntmps318 ?_;repeat' (first|refine aa.aF ?_|refine aa.bh true ?_|refine aa.aB ?_|refine aa.ak ?_|refine aa.aH ?_|refine aa.aD ?_|refine aa.au ?_|refine aa.cf ?_|refine aa.bg ?_|refine aa.aC ?_|intro _|refine aa.aA ?_)
  all_goals exact⟨rfl,rfl⟩
 ·have k1:(decide (s=({ data:=#[] }:ByteArray).data.toList))=false:=decide_eq_false (by intro h;exact h0 h);refine ACalls.en Tryz.func318 Tryz.ntmps318 ?_;repeat' (first|refine aa.aF ?_|refine aa.bh true ?_|refine aa.aj [0] (h1) ?_|refine aa.aj [0] (h2) ?_|refine aa.av (Ho) ?_|refine aa.aB ?_|refine aa.ak ?_|refine aa.aH ?_|refine aa.aD ?_|refine aa.au ?_|refine aa.cf ?_|refine aa.bg ?_|refine aa.aC ?_|intro _|refine aa.aA ?_)
  all_goals first|exact⟨rfl,rfl⟩|(exfalso;simp_all)
def kL(row:List UInt8):Bool:=!decide (row=[])&&decide (row.length≤24)&&row.all bB
theorem qH(s:List UInt8)(hs:s.length≤9223372036854775807):ACalls (cxg gl) 316 [S s] [] (fun r H=>r=B (kL s)∧H=[]):=by
 have ht:=trim_c (gl:=gl) s hs;have hn:=O7 s;by_cases h0:s=[]
 ·subst h0;refine ACalls.en Tryz.func316 Tryz.ntmps316 ?_;repeat' (first|refine aa.aF ?_|refine aa.bh true ?_|refine aa.au ?_|refine aa.cf ?_|refine aa.bg ?_|refine aa.fI ?_|refine aa.eG ?_|refine aa.aC ?_|intro _|refine aa.aA ?_)
  all_goals exact⟨rfl,rfl⟩
 ·have k1:(!decide (s=({ data:=#[] }:ByteArray).data.toList))=true:=by
   have:decide (s=({ data:=#[] }:ByteArray).data.toList)=false:=decide_eq_false (by intro h;exact h0 h);rw[this];rfl
  by_cases h24:s.length≤24
  ·have e:kL s=s.all bB:=by simp[kL,h0,h24]
   rw[e];have e2:decide (trL (trR s)=({ data:=#[] }:ByteArray).data.toList)=s.all bB:=by
    rw[Bool.eq_iff_iff,decide_eq_true_iff];exact hn
   refine ACalls.en Tryz.func316 Tryz.ntmps316 ?_;repeat' (first|refine aa.aF ?_|refine aa.bh true ?_|refine aa.av (ht) ?_|refine aa.au ?_|refine aa.cf ?_|refine aa.bg ?_|(apply aa.gBT;rfl;rfl;rfl;first|(simp only[bT];omega)|(exact k1))|(apply aa.gBF;rfl;rfl;rfl;first|(simp only[bF];omega)|exact ndF rfl|(exact k1))|refine aa.aC ?_|intro _|refine aa.aA ?_)
   all_goals first|exact⟨congrArg B (by rw[e2];simp[h0,h24]),rfl⟩|(exfalso;simp_all)
  ·have e:kL s=false:=by simp[kL,h24]
   rw[e];refine ACalls.en Tryz.func316 Tryz.ntmps316 ?_;repeat' (first|refine aa.aF ?_|refine aa.bh true ?_|refine aa.av (ht) ?_|refine aa.au ?_|refine aa.cf ?_|refine aa.bg ?_|(apply aa.gBT;rfl;rfl;rfl;first|(simp only[bT];omega)|(exact k1))|(apply aa.gBF;rfl;rfl;rfl;first|(simp only[bF];omega)|exact ndF rfl|(exact k1))|refine aa.aC ?_|intro _|refine aa.aA ?_)
   all_goals first|exact⟨rfl,rfl⟩|exact⟨congrArg B (by simp),rfl⟩|(exfalso;simp_all)
end Px
namespace Px
open Go Bt
def cO(l:List (List UInt8×Int)):List (D×D):=l.map fun p=>(.str p.1, .int .i64 p.2)
def fP(l:List (Int×Int)):List (D×D):=l.map fun p=>(.int .i64 p.1, .int .i64 p.2)
def dH{α:Type}[DecidableEq α](w:α):List (α×Int)→Nat→Option (Nat×Int)
 |[],_=>none
 |(k,v)::r,i=>if w=k then some (i,v) else dH w r (i+1)
theorem eC(w:List UInt8):∀(l:List (List UInt8×Int)) (i:Nat),jq (.str w) (cO l) i=some ((dH w l i).map fun p=>(p.1, .int .i64 p.2))
 |[],i=>rfl
 | (k, v) :: r, i => by
  simp only[cO,List.map_cons,jq,Ht,dH];by_cases h:w=k
  ·rw[if_pos h,decide_eq_true h];rfl
  ·rw[if_neg h,decide_eq_false h];exact eC w r (i+1)
theorem rO(w:Int):∀(l:List (Int×Int)) (i:Nat),jq (.int .i64 w) (fP l) i=some ((dH w l i).map fun p=>(p.1, .int .i64 p.2))
 |[],i=>rfl
 | (k, v) :: r, i => by
  simp only[fP,List.map_cons,jq,Ht,dH,decide_true,cond_true];by_cases h:w=k
  ·rw[if_pos h,decide_eq_true h];rfl
  ·rw[if_neg h,decide_eq_false h];exact rO w r (i+1)
def jF{α:Type}[DecidableEq α](w:α)(l:List (α×Int)):Int:=match dH w l 0 with|some (_,v)=>v|none=>0
def AO{α:Type}[DecidableEq α](l:List (α×Int))(w:α)(v:Int):List (α×Int):=match dH w l 0 with
 |some (i,_)=>l.modify i fun p=>(p.1,v)
 |none=>l++[(w,v)]
theorem lj(l:List (List UInt8×Int))(w:List UInt8)(v:Int):rN (cO l) (.str w) (.int .i64 v) ((dH w l 0).map fun p=>(p.1, .int .i64 p.2))=cO (AO l w v):=by
 unfold AO;cases hf:dH w l 0 with
 |none=>simp[rN,cO]
 | some jv =>
  obtain⟨j,u⟩:=jv;simp only[Option.map_some,rN,jC,cO];apply List.ext_getElem?;intro i;simp only[List.getElem?_modify,List.getElem?_map];cases hi:l[i]? with
  |none=>simp
  |some p =>
   by_cases e:j=i<;>simp[e]
theorem mU{α:Type}[DecidableEq α](w:α):∀(l:List (α×Int)) (i:Nat),dH w l i=(dH w l 0).map fun p=>(p.1+i,p.2)
 |[],i=>rfl
 | (k, v) :: r, i => by
  simp only[dH];by_cases h:w=k
  ·simp[h]
  ·rw[if_neg h,if_neg h,mU w r (i+1),mU w r (0+1)];cases dH w r 0 with
   |none=>rfl
   |some p=>simp;omega
theorem Ku{α:Type}[DecidableEq α](w:α):jF w ([]:List (α×Int))=0:=rfl
theorem nX{α:Type}[DecidableEq α](w k:α)(v:Int)(r:List (α×Int)):jF w ((k,v)::r)=if w=k then v else jF w r:=by
 unfold jF;simp only[dH];by_cases h:w=k
 ·simp[h]
 ·rw[if_neg h,if_neg h,mU w r (0+1)];cases dH w r 0<;>simp
theorem Kv{α:Type}[DecidableEq α](w:α)(v:Int):AO ([]:List (α×Int)) w v=[(w,v)]:=rfl
theorem Hz{α:Type}[DecidableEq α](w k:α)(v u:Int)(r:List (α×Int)):AO ((k,u)::r) w v=if w=k then (k,v)::r else (k,u)::AO r w v:=by
 unfold AO;simp only[dH];by_cases h:w=k
 ·simp[h]
 ·rw[if_neg h,if_neg h,mU w r (0+1)];cases dH w r 0 with
  |none=>simp
  |some p=>simp[List.modify_succ_cons]
theorem xw{α:Type}[DecidableEq α](x w:α)(v:Int):∀l:List (α×Int),jF x (AO l w v)=if x=w then v else jF x l
 |[]=>by rw[Kv,nX]
 | (k, u) :: r => by
  rw[Hz];by_cases h:w=k
  ·subst h;rw[if_pos rfl,nX,nX];by_cases h2:x=w<;>simp[h2]
  ·rw[if_neg h,nX,nX,xw x w v r];by_cases h2:x=k
   ·subst h2;rw[if_pos rfl,if_pos rfl,if_neg (fun e=>h e.symm)]
   ·rw[if_neg h2,if_neg h2]
def dm(row:List UInt8):Nat→List (List UInt8×Int)→List (List UInt8×Int)
 |0,l=>l
 |k+1,l=>AO (dm row k l) (row.take (k+1)) (jF (row.take (k+1)) (dm row k l)+1)
theorem mH(row:List UInt8)(l:List (List UInt8×Int))(N:Int)(h:∀w,0≤jF w l∧jF w l≤N):∀(k:Nat) (w:List UInt8),0≤jF w (dm row k l)∧jF w (dm row k l)≤N+k
 |0,w=>by have:=h w;simp[dm];omega
 |k+1,w=>by
  have h1:=mH row l N h k w;have h2:=mH row l N h k (row.take (k+1));rw[dm,xw];split<;>omega
def mF(p:List UInt8×Int):D := .agg [.str p.1, .int .i64 p.2]
def bK(l:List (List UInt8×Int)):List D:=l.map mF
theorem fC(l:List (List UInt8×Int)):(bK l).length=l.length:=by simp[bK]
theorem vA(l:List (List UInt8×Int))(p:List UInt8×Int):bK (l++[p])=bK l++[mF p]:=by simp[bK]
structure Tb where
 codes:List (List UInt8×Int)
 sym:List (List UInt8×Int)
 rws:List (Int×Int)
 beg:List (List UInt8×Int)
 lng:Int
def yw(t:Tb)(row:List UInt8)(sy:Int):Bool :=
 (dH sy t.rws 0).isNone&&kL row&&decide (jF row t.beg≤0)&&(List.range row.length).all fun n=>(dH (row.take (n+1)) t.sym 0).isNone
def ij(t:Tb)(row:List UInt8)(sy:Int):Tb :=
 ⟨t.codes++[(row,sy)],t.sym++[(row,(t.codes.length:Int))],t.rws++[(sy,(t.codes.length:Int))],dm row row.length t.beg,max t.lng row.length⟩
def Pb(t:Tb):List aN:=[.cells [.d .aU, .mp 1, .mp 2, .mp 3,I t.lng], .map (cO t.sym), .map (fP t.rws), .map (cO t.beg)]
def Md(t:Tb):List aN:=[.cells [.own 2 (bK t.codes) 4, .mp 1, .mp 2, .mp 3,I t.lng], .map (cO t.sym), .map (fP t.rws), .map (cO t.beg), .front 321 2 (bK t.codes).length]
end Px
namespace Px
open Go Bt
attribute [local irreducible] aa ACalls
variable {gl:List (Nat×List D)}
theorem iX(l:List (D×D))(k z v:D)(n:Int)(hn:n=(l.length:Int)):jC (l++[(k,z)]) n.toNat v=l++[(k,v)]:=by
 subst hn;unfold jC;rw[Int.toNat_natCast]
 induction l with
 |nil=>rfl
 |cons x l ih=>simpa[List.modify_succ_cons]using ih
theorem qE(l:List (List UInt8×Int))(w:List UInt8)(v:Int):cO (l++[(w,v)])=cO l++[(.str w, .int .i64 v)]:=by simp[cO]
theorem qN(l:List (Int×Int))(w:Int)(v:Int):fP (l++[(w,v)])=fP l++[(.int .i64 w, .int .i64 v)]:=by simp[fP]
theorem xZ(t:Tb)(row:List UInt8)(sy:Int):yw t row sy=true↔dH sy t.rws 0=none∧kL row=true∧jF row t.beg≤0∧∀n,n<row.length→dH (row.take (n+1)) t.sym 0=none:=by
 unfold yw;simp only[Bool.and_eq_true,Option.isNone_iff_eq_none,decide_eq_true_eq,List.all_eq_true,List.mem_range,and_assoc]
theorem gZ{α:Type}[DecidableEq α]{w:α}{l:List (α×Int)}{j:Nat}{v:Int}(h:dH w l 0=some (j,v)):jF w l=v:=by unfold jF;rw[h]
theorem nW{α:Type}[DecidableEq α]{w:α}{l:List (α×Int)}(h:dH w l 0=none):jF w l=0:=by unfold jF;rw[h]
theorem tk1(row:List UInt8)(k:Nat):row.take ((k:Int)+1).toNat=row.take (k+1):=by rw[show ((k:Int)+1).toNat=k+1 by omega]
attribute [local irreducible] cO fP bK kL dm
end Px
end Go.Proofs.YtbpednchkndocaaGreatDoor.Av
