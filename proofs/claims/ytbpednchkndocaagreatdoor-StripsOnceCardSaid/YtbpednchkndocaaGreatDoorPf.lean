/- prefix's add: a code is taken in. -/
import Derived.Test.YtbpednchkndocaaGreatDoorPe
import Derived.Test.YtbpednchkndocaaGreatDoorPn
set_option linter.unusedVariables false
set_option linter.unusedSimpArgs false
set_option maxRecDepth 100000
set_option maxHeartbeats 64000000
namespace Go.Proofs.YtbpednchkndocaaGreatDoor.Av
namespace Px
open Go Bt
attribute [local irreducible] aa ACalls
variable {gl:List (Nat×List D)}
theorem xH(p:List UInt8×Int):bK ([]++[p])=[mF p]:=rfl
def Mc(t:Tb)(row:List UInt8)(sy:Int):List aN:=[.cells [.own 2 (bK t.codes) 5, .mp 1, .mp 2, .mp 3,I t.lng], .map (cO t.sym), .map (fP t.rws), .map (cO t.beg), .cells [S row,I sy], .front 321 2 (bK t.codes).length]
theorem jc(row:List UInt8)(k:Nat)(l:List (List UInt8×Int)):dm row (k+1) l=AO (dm row k l) (row.take (k+1)) (jF (row.take (k+1)) (dm row k l)+1):=rfl
theorem wm(row:List UInt8)(l:List (List UInt8×Int)):dm row 0 l=l:=rfl
theorem yH(row:List UInt8)(h:kL row=true):0<row.length:=by
 unfold kL at h;rcases row with _|⟨c,r⟩
 ·simp at h
 ·simp
attribute [local irreducible] cO fP bK kL dm
theorem H9(t:Tb)(row:List UInt8)(sy:Int)(hrow:row.length≤1000000)(hb:yw t row sy=true)(hN:∀w,0≤jF w t.beg∧jF w t.beg≤1000000)(hl : -1000000≤t.lng∧t.lng≤1000000)(hc:t.codes=[]):
  ACalls (cxg gl) 314 [.ptr 0 0, .d (mF (row,sy))] (Pb t) (fun r H=>r=B true∧H=Mc (ij t row sy) row sy):=by
 obtain⟨h1,hr2,h3,hw4⟩:=(xZ t row sy).1 hb;have f1:jq (.int .i64 sy) (fP t.rws) 0=some none:=by rw[rO,h1];rfl
 have f2:=eC row t.beg 0;have hr:=qH (gl:=gl) row (by omega);rw[hr2]at hr;have hne:0<row.length:=yH row hr2;have h55:=hw4 (row.length-1) (by omega);rw[show row.length-1+1=row.length by omega,List.take_length]at h55;have f5:jq (.str row) (cO t.sym) 0=some none:=by rw[eC,h55];rfl
 unfold Pb mF;cases h4:dH row t.beg 0 with
 | none =>
  rw[h4]at f2;refine ACalls.en Tryz.func314 Tryz.ntmps314 ?_;repeat (first|refine aa.aF ?_|refine aa.bh true ?_|refine aa.eP true ?_|refine aa.iU true ?_|refine aa.aR (hr) ?_|refine aa.cE ?_|refine aa.aV ?_|refine aa.ah ?_|refine aa.ae ?_|refine aa.ak ?_|refine aa.aM ?_|refine aa.aD ?_|refine aa.bw ?_|((first|apply aa.ji|apply aa.jh);(iterate 13 rfl);kernel_rfl;exact f1;rfl)|((first|apply aa.ji|apply aa.jh);(iterate 13 rfl);kernel_rfl;exact f2;rfl))
  refine aa.weak (env':=[(41,I 0),(40,I row.length),(3, .ptr 4 0),(0, .ptr 0 0)]) ⟨rfl,rfl,rfl,rfl,trivial⟩ ?_;refine aa.loop (fun m env H=>∃k:Nat,m=row.length-k∧k≤row.length∧(∀n,n<k→dH (row.take (n+1)) t.sym 0=none)∧env=[(41,I (k:Int)),(40,I row.length),(3, .ptr 4 0),(0, .ptr 0 0)]∧H=[.cells [.d .aU, .mp 1, .mp 2, .mp 3,I t.lng], .map (cO t.sym), .map (fP t.rws), .map (cO t.beg), .cells [S row,I sy]]) row.length
   ⟨0,rfl,by omega,fun n hn=>absurd hn (by omega),rfl,rfl⟩ ?_
  rintro m env H ⟨k,rfl,hk,hw,rfl,rfl⟩;have e1:=tk1 row k;have f3:=eC (row.take ((k:Int)+1).toNat) t.sym 0;rw[e1]at f3;rcases Nat.lt_or_ge k row.length with hlt|hge
  ·have h6:=hw4 k hlt;rw[h6]at f3;rw[←e1]at f3;repeat' (first|refine aa.aF ?_|refine aa.bh true ?_|refine aa.eP true ?_|refine aa.iU true ?_|refine aa.cE ?_|refine aa.aV ?_|refine aa.ah ?_|refine aa.ae ?_|refine aa.ak ?_|refine aa.aM ?_|refine aa.aD ?_|refine aa.bw ?_|((first|apply aa.ji|apply aa.jh);(iterate 13 rfl);kernel_rfl;exact f3;rfl)|intro _|refine aa.aJ ?_)
   exact aa.round [(41,I ((k+1:Nat):Int)),(40,I row.length),(3, .ptr 4 0),(0, .ptr 0 0)] (row.length-(k+1)) (by omega) ⟨rfl,rfl,rfl,rfl,trivial⟩ ⟨k+1,rfl,hlt,fun n _=>hw4 n (by omega),rfl,rfl⟩
  ·obtain rfl:k=row.length:=by omega
   repeat' (first|refine aa.aF ?_|refine aa.bh true ?_|refine aa.eP true ?_|refine aa.iU true ?_|refine aa.cE ?_|refine aa.aV ?_|refine aa.ah ?_|refine aa.ae ?_|refine aa.ak ?_|refine aa.aM ?_|refine aa.aD ?_|refine aa.bw ?_|intro _|refine aa.aJ ?_)
   refine aa.weak (env':=[(62,I 0),(61,I row.length),(3, .ptr 4 0),(0, .ptr 0 0)]) ⟨rfl,rfl,rfl,rfl,trivial⟩ ?_;refine aa.loop (fun m env H=>∃k:Nat,m=row.length-k∧k≤row.length∧env=[(62,I (k:Int)),(61,I row.length),(3, .ptr 4 0),(0, .ptr 0 0)]∧H=[.cells [.d .aU, .mp 1, .mp 2, .mp 3,I t.lng], .map (cO t.sym), .map (fP t.rws), .map (cO (dm row k t.beg)), .cells [S row,I sy]]) row.length
    ⟨0,rfl,by omega,rfl,by rw[wm]⟩ ?_
   rintro m env H ⟨k,rfl,hk,rfl,rfl⟩;have e1:=tk1 row k;have f4:=eC (row.take ((k:Int)+1).toNat) (dm row k t.beg) 0;rw[e1]at f4;have hbd:=mH row t.beg 1000000 hN k (row.take (k+1));rcases Nat.lt_or_ge k row.length with hlt|hge
   ·cases h7:dH (row.take (k+1)) (dm row k t.beg) 0 with
    | none =>
     rw[h7]at f4;rw[←e1]at f4;have hput:rN (cO (dm row k t.beg)) (.str (row.take ((k:Int)+1).toNat)) (.int .i64 (0+1)) none=cO (dm row (k+1) t.beg):=by
      have:=lj (dm row k t.beg) (row.take (k+1)) (0+1);rw[h7]at this;rw[e1,jc,nW h7];exact this
     repeat' (first|refine aa.aF ?_|refine aa.bh true ?_|refine aa.eP true ?_|refine aa.iU true ?_|refine aa.cE ?_|refine aa.aV ?_|refine aa.ah ?_|refine aa.ae ?_|refine aa.ak ?_|refine aa.aM ?_|refine aa.aD ?_|refine aa.bw ?_|refine aa.jV ?_|refine aa.jT ?_|refine aa.il ?_|intro _|refine aa.aJ ?_)
     exact aa.round [(62,I ((k+1:Nat):Int)),(61,I row.length),(3, .ptr 4 0),(0, .ptr 0 0)] (row.length-(k+1)) (by omega) ⟨rfl,rfl,rfl,rfl,trivial⟩ ⟨k+1,rfl,hlt,rfl,congrArg (fun x=>[aN.cells [.d .aU, .mp 1, .mp 2, .mp 3,I t.lng],aN.map (cO t.sym),aN.map (fP t.rws),aN.map (x),aN.cells [S row,I sy]]) hput⟩
    | some jv =>
     obtain⟨j,v⟩:=jv;rw[gZ h7]at hbd;rw[h7]at f4;rw[←e1]at f4;have hput:rN (cO (dm row k t.beg)) (.str (row.take ((k:Int)+1).toNat)) (.int .i64 (v+1)) (some (j, .int .i64 v))=cO (dm row (k+1) t.beg):=by
      have:=lj (dm row k t.beg) (row.take (k+1)) (v+1);rw[h7]at this;rw[e1,jc,gZ h7];exact this
     repeat' (first|refine aa.aF ?_|refine aa.bh true ?_|refine aa.eP true ?_|refine aa.iU true ?_|refine aa.cE ?_|refine aa.aV ?_|refine aa.ah ?_|refine aa.ae ?_|refine aa.ak ?_|refine aa.aM ?_|refine aa.aD ?_|refine aa.bw ?_|refine aa.jV ?_|refine aa.jT ?_|refine aa.il ?_|intro _|refine aa.aJ ?_)
     exact aa.round [(62,I ((k+1:Nat):Int)),(61,I row.length),(3, .ptr 4 0),(0, .ptr 0 0)] (row.length-(k+1)) (by omega) ⟨rfl,rfl,rfl,rfl,trivial⟩ ⟨k+1,rfl,hlt,rfl,congrArg (fun x=>[aN.cells [.d .aU, .mp 1, .mp 2, .mp 3,I t.lng],aN.map (cO t.sym),aN.map (fP t.rws),aN.map (x),aN.cells [S row,I sy]]) hput⟩
   ·obtain rfl:k=row.length:=by omega
    repeat (first|refine aa.aF ?_|refine aa.bh true ?_|refine aa.eP true ?_|refine aa.iU true ?_|refine aa.cE ?_|refine aa.aV ?_|refine aa.ah ?_|refine aa.ae ?_|refine aa.ak ?_|refine aa.aM ?_|refine aa.aD ?_|refine aa.bw ?_)
    refine aa.out rfl ⟨_,rfl,?_⟩;repeat (first|refine aa.aF ?_|refine aa.bh true ?_|refine aa.eP true ?_|refine aa.iU true ?_|refine aa.cE ?_|refine aa.aV ?_|refine aa.ah ?_|refine aa.ae ?_|refine aa.ak ?_|refine aa.aM ?_|refine aa.aD ?_|refine aa.bw ?_)
    apply aa.Gh [1,2];exact fun _ _ _ h=>h
    rfl;rfl;decide +kernel;rfl
    (repeat (first|exact dJ.nil _|(apply dJ.cons true;rfl;rfl;rfl;rfl;rfl;first|exact True.intro|omega)))
    (apply fU.cons;(apply gz.mapEntry;rfl;rfl;rfl;rfl;rfl;rfl;rfl;rfl;rfl;rfl;rfl;kernel_rfl;rfl;rfl;exact f5;rfl))
    (apply fU.cons;(apply gz.q true;rfl;rfl;rfl;rfl;exact True.intro))
    (apply fU.cons;(apply gz.entryStore;rfl;rfl;rfl;rfl;rfl;rfl;rfl;(simp only[List.length_append,List.length_cons,List.length_nil,oK];omega);rfl))
    (apply fU.cons;(apply gz.mapEntry;rfl;rfl;rfl;rfl;rfl;rfl;rfl;rfl;rfl;rfl;rfl;kernel_rfl;rfl;rfl;exact f1;rfl))
    (apply fU.cons;(apply gz.q true;rfl;rfl;rfl;rfl;exact True.intro))
    (apply fU.cons;(apply gz.entryStore;rfl;rfl;rfl;rfl;rfl;rfl;rfl;(simp only[List.length_append,List.length_cons,List.length_nil,oK];omega);rfl))
    exact fU.nil _ _;exact Nat.le_refl _;simp only[List.set_cons_succ,List.set_cons_zero,oK,sZ];repeat (first|refine aa.aF ?_|refine aa.bh true ?_|refine aa.eP true ?_|refine aa.iU true ?_|refine aa.cE ?_|refine aa.aV ?_|refine aa.ah ?_|refine aa.ae ?_|refine aa.ak ?_|refine aa.aM ?_|refine aa.aD ?_|refine aa.bw ?_)
    apply aa.Gi;exact fun _ _ _ h=>h
    rfl;rfl;decide +kernel
    (repeat (first|exact dJ.nil _|(apply dJ.cons true;rfl;rfl;rfl;rfl;rfl;first|exact True.intro|omega)))
    (apply StepB.buildSlice;rfl;rfl;rfl;rfl;rfl;rfl;rfl;rfl;rfl;rfl;rfl)
    exact Nat.le_refl _;repeat' (first|refine aa.aF ?_|(apply aa.Gx;(iterate 10 rfl);(first|(simp only[List.length_append,List.length_map,List.length_cons,List.length_nil];omega)|(simp only[fC,List.length_cons,List.length_nil];omega));simp only[List.nil_append,List.cons_append,List.length_nil,List.length_cons,Nat.reduceAdd])|refine aa.q'f true ?_|refine aa.MK true ?_|refine aa.Ml true ?_|refine aa.cE ?_|refine aa.aV ?_|refine aa.ah ?_|refine aa.ae ?_|refine aa.ak ?_|refine aa.aM ?_|refine aa.aD ?_|refine aa.bw ?_|intro _|refine aa.aJ ?_)
    (apply aa.BN 6;rfl;rfl;rfl;rfl;rfl)
    refine⟨rfl,?_⟩;have s1:jC (cO t.sym++[(.str row, .int .i64 0)]) ((cO t.sym).length:Int).toNat (.int .i64 0)=cO (ij t row sy).sym:=by
     rw[iX _ _ _ _ _ rfl];unfold ij;rw[qE,hc];rfl
    have s2:jC (fP t.rws++[(.int .i64 sy, .int .i64 0)]) ((fP t.rws).length:Int).toNat (.int .i64 0)=fP (ij t row sy).rws:=by
     rw[iX _ _ _ _ _ rfl];unfold ij;rw[qN,hc];rfl
    have s3:bK (ij t row sy).codes=[mF (row,sy)]:=by unfold ij;rw[hc];exact xH _
    unfold Mc;rw[←s1,←s2,s3];rfl
 | some jv =>
  obtain⟨j,v⟩:=jv;rw[h4]at f2;have h5:=gZ h4;rw[h5]at h3;refine ACalls.en Tryz.func314 Tryz.ntmps314 ?_;repeat (first|refine aa.aF ?_|refine aa.bh true ?_|refine aa.eP true ?_|refine aa.iU true ?_|refine aa.aR (hr) ?_|refine aa.cE ?_|refine aa.aV ?_|refine aa.ah ?_|refine aa.ae ?_|refine aa.ak ?_|refine aa.aM ?_|refine aa.aD ?_|refine aa.bw ?_|((first|apply aa.ji|apply aa.jh);(iterate 13 rfl);kernel_rfl;exact f1;rfl)|((first|apply aa.ji|apply aa.jh);(iterate 13 rfl);kernel_rfl;exact f2;rfl))
  refine aa.weak (env':=[(41,I 0),(40,I row.length),(3, .ptr 4 0),(0, .ptr 0 0)]) ⟨rfl,rfl,rfl,rfl,trivial⟩ ?_;refine aa.loop (fun m env H=>∃k:Nat,m=row.length-k∧k≤row.length∧(∀n,n<k→dH (row.take (n+1)) t.sym 0=none)∧env=[(41,I (k:Int)),(40,I row.length),(3, .ptr 4 0),(0, .ptr 0 0)]∧H=[.cells [.d .aU, .mp 1, .mp 2, .mp 3,I t.lng], .map (cO t.sym), .map (fP t.rws), .map (cO t.beg), .cells [S row,I sy]]) row.length
   ⟨0,rfl,by omega,fun n hn=>absurd hn (by omega),rfl,rfl⟩ ?_
  rintro m env H ⟨k,rfl,hk,hw,rfl,rfl⟩;have e1:=tk1 row k;have f3:=eC (row.take ((k:Int)+1).toNat) t.sym 0;rw[e1]at f3;rcases Nat.lt_or_ge k row.length with hlt|hge
  ·have h6:=hw4 k hlt;rw[h6]at f3;rw[←e1]at f3;repeat' (first|refine aa.aF ?_|refine aa.bh true ?_|refine aa.eP true ?_|refine aa.iU true ?_|refine aa.cE ?_|refine aa.aV ?_|refine aa.ah ?_|refine aa.ae ?_|refine aa.ak ?_|refine aa.aM ?_|refine aa.aD ?_|refine aa.bw ?_|((first|apply aa.ji|apply aa.jh);(iterate 13 rfl);kernel_rfl;exact f3;rfl)|intro _|refine aa.aJ ?_)
   exact aa.round [(41,I ((k+1:Nat):Int)),(40,I row.length),(3, .ptr 4 0),(0, .ptr 0 0)] (row.length-(k+1)) (by omega) ⟨rfl,rfl,rfl,rfl,trivial⟩ ⟨k+1,rfl,hlt,fun n _=>hw4 n (by omega),rfl,rfl⟩
  ·obtain rfl:k=row.length:=by omega
   repeat' (first|refine aa.aF ?_|refine aa.bh true ?_|refine aa.eP true ?_|refine aa.iU true ?_|refine aa.cE ?_|refine aa.aV ?_|refine aa.ah ?_|refine aa.ae ?_|refine aa.ak ?_|refine aa.aM ?_|refine aa.aD ?_|refine aa.bw ?_|intro _|refine aa.aJ ?_)
   refine aa.weak (env':=[(62,I 0),(61,I row.length),(3, .ptr 4 0),(0, .ptr 0 0)]) ⟨rfl,rfl,rfl,rfl,trivial⟩ ?_;refine aa.loop (fun m env H=>∃k:Nat,m=row.length-k∧k≤row.length∧env=[(62,I (k:Int)),(61,I row.length),(3, .ptr 4 0),(0, .ptr 0 0)]∧H=[.cells [.d .aU, .mp 1, .mp 2, .mp 3,I t.lng], .map (cO t.sym), .map (fP t.rws), .map (cO (dm row k t.beg)), .cells [S row,I sy]]) row.length
    ⟨0,rfl,by omega,rfl,by rw[wm]⟩ ?_
   rintro m env H ⟨k,rfl,hk,rfl,rfl⟩;have e1:=tk1 row k;have f4:=eC (row.take ((k:Int)+1).toNat) (dm row k t.beg) 0;rw[e1]at f4;have hbd:=mH row t.beg 1000000 hN k (row.take (k+1));rcases Nat.lt_or_ge k row.length with hlt|hge
   ·cases h7:dH (row.take (k+1)) (dm row k t.beg) 0 with
    | none =>
     rw[h7]at f4;rw[←e1]at f4;have hput:rN (cO (dm row k t.beg)) (.str (row.take ((k:Int)+1).toNat)) (.int .i64 (0+1)) none=cO (dm row (k+1) t.beg):=by
      have:=lj (dm row k t.beg) (row.take (k+1)) (0+1);rw[h7]at this;rw[e1,jc,nW h7];exact this
     repeat' (first|refine aa.aF ?_|refine aa.bh true ?_|refine aa.eP true ?_|refine aa.iU true ?_|refine aa.cE ?_|refine aa.aV ?_|refine aa.ah ?_|refine aa.ae ?_|refine aa.ak ?_|refine aa.aM ?_|refine aa.aD ?_|refine aa.bw ?_|refine aa.jV ?_|refine aa.jT ?_|refine aa.il ?_|intro _|refine aa.aJ ?_)
     exact aa.round [(62,I ((k+1:Nat):Int)),(61,I row.length),(3, .ptr 4 0),(0, .ptr 0 0)] (row.length-(k+1)) (by omega) ⟨rfl,rfl,rfl,rfl,trivial⟩ ⟨k+1,rfl,hlt,rfl,congrArg (fun x=>[aN.cells [.d .aU, .mp 1, .mp 2, .mp 3,I t.lng],aN.map (cO t.sym),aN.map (fP t.rws),aN.map (x),aN.cells [S row,I sy]]) hput⟩
    | some jv =>
     obtain⟨j,v⟩:=jv;rw[gZ h7]at hbd;rw[h7]at f4;rw[←e1]at f4;have hput:rN (cO (dm row k t.beg)) (.str (row.take ((k:Int)+1).toNat)) (.int .i64 (v+1)) (some (j, .int .i64 v))=cO (dm row (k+1) t.beg):=by
      have:=lj (dm row k t.beg) (row.take (k+1)) (v+1);rw[h7]at this;rw[e1,jc,gZ h7];exact this
     repeat' (first|refine aa.aF ?_|refine aa.bh true ?_|refine aa.eP true ?_|refine aa.iU true ?_|refine aa.cE ?_|refine aa.aV ?_|refine aa.ah ?_|refine aa.ae ?_|refine aa.ak ?_|refine aa.aM ?_|refine aa.aD ?_|refine aa.bw ?_|refine aa.jV ?_|refine aa.jT ?_|refine aa.il ?_|intro _|refine aa.aJ ?_)
     exact aa.round [(62,I ((k+1:Nat):Int)),(61,I row.length),(3, .ptr 4 0),(0, .ptr 0 0)] (row.length-(k+1)) (by omega) ⟨rfl,rfl,rfl,rfl,trivial⟩ ⟨k+1,rfl,hlt,rfl,congrArg (fun x=>[aN.cells [.d .aU, .mp 1, .mp 2, .mp 3,I t.lng],aN.map (cO t.sym),aN.map (fP t.rws),aN.map (x),aN.cells [S row,I sy]]) hput⟩
   ·obtain rfl:k=row.length:=by omega
    repeat (first|refine aa.aF ?_|refine aa.bh true ?_|refine aa.eP true ?_|refine aa.iU true ?_|refine aa.cE ?_|refine aa.aV ?_|refine aa.ah ?_|refine aa.ae ?_|refine aa.ak ?_|refine aa.aM ?_|refine aa.aD ?_|refine aa.bw ?_)
    refine aa.out rfl ⟨_,rfl,?_⟩;repeat (first|refine aa.aF ?_|refine aa.bh true ?_|refine aa.eP true ?_|refine aa.iU true ?_|refine aa.cE ?_|refine aa.aV ?_|refine aa.ah ?_|refine aa.ae ?_|refine aa.ak ?_|refine aa.aM ?_|refine aa.aD ?_|refine aa.bw ?_)
    apply aa.Gh [1,2];exact fun _ _ _ h=>h
    rfl;rfl;decide +kernel;rfl
    (repeat (first|exact dJ.nil _|(apply dJ.cons true;rfl;rfl;rfl;rfl;rfl;first|exact True.intro|omega)))
    (apply fU.cons;(apply gz.mapEntry;rfl;rfl;rfl;rfl;rfl;rfl;rfl;rfl;rfl;rfl;rfl;kernel_rfl;rfl;rfl;exact f5;rfl))
    (apply fU.cons;(apply gz.q true;rfl;rfl;rfl;rfl;exact True.intro))
    (apply fU.cons;(apply gz.entryStore;rfl;rfl;rfl;rfl;rfl;rfl;rfl;(simp only[List.length_append,List.length_cons,List.length_nil,oK];omega);rfl))
    (apply fU.cons;(apply gz.mapEntry;rfl;rfl;rfl;rfl;rfl;rfl;rfl;rfl;rfl;rfl;rfl;kernel_rfl;rfl;rfl;exact f1;rfl))
    (apply fU.cons;(apply gz.q true;rfl;rfl;rfl;rfl;exact True.intro))
    (apply fU.cons;(apply gz.entryStore;rfl;rfl;rfl;rfl;rfl;rfl;rfl;(simp only[List.length_append,List.length_cons,List.length_nil,oK];omega);rfl))
    exact fU.nil _ _;exact Nat.le_refl _;simp only[List.set_cons_succ,List.set_cons_zero,oK,sZ];repeat (first|refine aa.aF ?_|refine aa.bh true ?_|refine aa.eP true ?_|refine aa.iU true ?_|refine aa.cE ?_|refine aa.aV ?_|refine aa.ah ?_|refine aa.ae ?_|refine aa.ak ?_|refine aa.aM ?_|refine aa.aD ?_|refine aa.bw ?_)
    apply aa.Gi;exact fun _ _ _ h=>h
    rfl;rfl;decide +kernel
    (repeat (first|exact dJ.nil _|(apply dJ.cons true;rfl;rfl;rfl;rfl;rfl;first|exact True.intro|omega)))
    (apply StepB.buildSlice;rfl;rfl;rfl;rfl;rfl;rfl;rfl;rfl;rfl;rfl;rfl)
    exact Nat.le_refl _;repeat' (first|refine aa.aF ?_|(apply aa.Gx;(iterate 10 rfl);(first|(simp only[List.length_append,List.length_map,List.length_cons,List.length_nil];omega)|(simp only[fC,List.length_cons,List.length_nil];omega));simp only[List.nil_append,List.cons_append,List.length_nil,List.length_cons,Nat.reduceAdd])|refine aa.q'f true ?_|refine aa.MK true ?_|refine aa.Ml true ?_|refine aa.cE ?_|refine aa.aV ?_|refine aa.ah ?_|refine aa.ae ?_|refine aa.ak ?_|refine aa.aM ?_|refine aa.aD ?_|refine aa.bw ?_|intro _|refine aa.aJ ?_)
    (apply aa.BN 6;rfl;rfl;rfl;rfl;rfl)
    refine⟨rfl,?_⟩;have s1:jC (cO t.sym++[(.str row, .int .i64 0)]) ((cO t.sym).length:Int).toNat (.int .i64 0)=cO (ij t row sy).sym:=by
     rw[iX _ _ _ _ _ rfl];unfold ij;rw[qE,hc];rfl
    have s2:jC (fP t.rws++[(.int .i64 sy, .int .i64 0)]) ((fP t.rws).length:Int).toNat (.int .i64 0)=fP (ij t row sy).rws:=by
     rw[iX _ _ _ _ _ rfl];unfold ij;rw[qN,hc];rfl
    have s3:bK (ij t row sy).codes=[mF (row,sy)]:=by unfold ij;rw[hc];exact xH _
    unfold Mc;rw[←s1,←s2,s3];rfl
theorem H8(t:Tb)(row:List UInt8)(sy:Int)(hrow:row.length≤1000000)(hb:yw t row sy=true)(hN:∀w,0≤jF w t.beg∧jF w t.beg≤1000000)(hl : -1000000≤t.lng∧t.lng≤1000000)(hc:t.codes.length≤1000000):
  ACalls (cxg gl) 314 [.ptr 0 0, .d (mF (row,sy))] (Md t) (fun r H=>r=B true∧H=Md (ij t row sy)):=by
 obtain⟨h1,hr2,h3,hw4⟩:=(xZ t row sy).1 hb;have f1:jq (.int .i64 sy) (fP t.rws) 0=some none:=by rw[rO,h1];rfl
 have f2:=eC row t.beg 0;have hr:=qH (gl:=gl) row (by omega);rw[hr2]at hr;have hne:0<row.length:=yH row hr2;have h55:=hw4 (row.length-1) (by omega);rw[show row.length-1+1=row.length by omega,List.take_length]at h55;have f5:jq (.str row) (cO t.sym) 0=some none:=by rw[eC,h55];rfl
 unfold Md mF;cases h4:dH row t.beg 0 with
 | none =>
  rw[h4]at f2;refine ACalls.en Tryz.func314 Tryz.ntmps314 ?_;repeat (first|refine aa.aF ?_|refine aa.bh true ?_|refine aa.eP true ?_|refine aa.iU true ?_|refine aa.aR (hr) ?_|refine aa.cE ?_|refine aa.aV ?_|refine aa.ah ?_|refine aa.ae ?_|refine aa.ak ?_|refine aa.aM ?_|refine aa.aD ?_|refine aa.bw ?_|((first|apply aa.ji|apply aa.jh);(iterate 13 rfl);kernel_rfl;exact f1;rfl)|((first|apply aa.ji|apply aa.jh);(iterate 13 rfl);kernel_rfl;exact f2;rfl))
  refine aa.weak (env':=[(41,I 0),(40,I row.length),(3, .ptr 5 0),(0, .ptr 0 0)]) ⟨rfl,rfl,rfl,rfl,trivial⟩ ?_;refine aa.loop (fun m env H=>∃k:Nat,m=row.length-k∧k≤row.length∧(∀n,n<k→dH (row.take (n+1)) t.sym 0=none)∧env=[(41,I (k:Int)),(40,I row.length),(3, .ptr 5 0),(0, .ptr 0 0)]∧H=[.cells [.own 2 (bK t.codes) 4, .mp 1, .mp 2, .mp 3,I t.lng], .map (cO t.sym), .map (fP t.rws), .map (cO t.beg), .front 321 2 (bK t.codes).length, .cells [S row,I sy]]) row.length
   ⟨0,rfl,by omega,fun n hn=>absurd hn (by omega),rfl,rfl⟩ ?_
  rintro m env H ⟨k,rfl,hk,hw,rfl,rfl⟩;have e1:=tk1 row k;have f3:=eC (row.take ((k:Int)+1).toNat) t.sym 0;rw[e1]at f3;rcases Nat.lt_or_ge k row.length with hlt|hge
  ·have h6:=hw4 k hlt;rw[h6]at f3;rw[←e1]at f3;repeat' (first|refine aa.aF ?_|refine aa.bh true ?_|refine aa.eP true ?_|refine aa.iU true ?_|refine aa.cE ?_|refine aa.aV ?_|refine aa.ah ?_|refine aa.ae ?_|refine aa.ak ?_|refine aa.aM ?_|refine aa.aD ?_|refine aa.bw ?_|((first|apply aa.ji|apply aa.jh);(iterate 13 rfl);kernel_rfl;exact f3;rfl)|intro _|refine aa.aA ?_|refine aa.aJ ?_)
   exact aa.round [(41,I ((k+1:Nat):Int)),(40,I row.length),(3, .ptr 5 0),(0, .ptr 0 0)] (row.length-(k+1)) (by omega) ⟨rfl,rfl,rfl,rfl,trivial⟩ ⟨k+1,rfl,hlt,fun n _=>hw4 n (by omega),rfl,rfl⟩
  ·obtain rfl:k=row.length:=by omega
   repeat' (first|refine aa.aF ?_|refine aa.bh true ?_|refine aa.eP true ?_|refine aa.iU true ?_|refine aa.cE ?_|refine aa.aV ?_|refine aa.ah ?_|refine aa.ae ?_|refine aa.ak ?_|refine aa.aM ?_|refine aa.aD ?_|refine aa.bw ?_|intro _|refine aa.aA ?_|refine aa.aJ ?_)
   refine aa.weak (env':=[(62,I 0),(61,I row.length),(3, .ptr 5 0),(0, .ptr 0 0)]) ⟨rfl,rfl,rfl,rfl,trivial⟩ ?_;refine aa.loop (fun m env H=>∃k:Nat,m=row.length-k∧k≤row.length∧env=[(62,I (k:Int)),(61,I row.length),(3, .ptr 5 0),(0, .ptr 0 0)]∧H=[.cells [.own 2 (bK t.codes) 4, .mp 1, .mp 2, .mp 3,I t.lng], .map (cO t.sym), .map (fP t.rws), .map (cO (dm row k t.beg)), .front 321 2 (bK t.codes).length, .cells [S row,I sy]]) row.length
    ⟨0,rfl,by omega,rfl,by rw[wm]⟩ ?_
   rintro m env H ⟨k,rfl,hk,rfl,rfl⟩;have e1:=tk1 row k;have f4:=eC (row.take ((k:Int)+1).toNat) (dm row k t.beg) 0;rw[e1]at f4;have hbd:=mH row t.beg 1000000 hN k (row.take (k+1));rcases Nat.lt_or_ge k row.length with hlt|hge
   ·cases h7:dH (row.take (k+1)) (dm row k t.beg) 0 with
    | none =>
     rw[h7]at f4;rw[←e1]at f4;have hput:rN (cO (dm row k t.beg)) (.str (row.take ((k:Int)+1).toNat)) (.int .i64 (0+1)) none=cO (dm row (k+1) t.beg):=by
      have:=lj (dm row k t.beg) (row.take (k+1)) (0+1);rw[h7]at this;rw[e1,jc,nW h7];exact this
     repeat' (first|refine aa.aF ?_|refine aa.bh true ?_|refine aa.eP true ?_|refine aa.iU true ?_|refine aa.cE ?_|refine aa.aV ?_|refine aa.ah ?_|refine aa.ae ?_|refine aa.ak ?_|refine aa.aM ?_|refine aa.aD ?_|refine aa.bw ?_|refine aa.jV ?_|refine aa.jT ?_|refine aa.il ?_|intro _|refine aa.aA ?_|refine aa.aJ ?_)
     exact aa.round [(62,I ((k+1:Nat):Int)),(61,I row.length),(3, .ptr 5 0),(0, .ptr 0 0)] (row.length-(k+1)) (by omega) ⟨rfl,rfl,rfl,rfl,trivial⟩ ⟨k+1,rfl,hlt,rfl,congrArg (fun x=>[aN.cells [.own 2 (bK t.codes) 4, .mp 1, .mp 2, .mp 3,I t.lng],aN.map (cO t.sym),aN.map (fP t.rws),aN.map (x),aN.front 321 2 (bK t.codes).length,aN.cells [S row,I sy]]) hput⟩
    | some jv =>
     obtain⟨j,v⟩:=jv;rw[gZ h7]at hbd;rw[h7]at f4;rw[←e1]at f4;have hput:rN (cO (dm row k t.beg)) (.str (row.take ((k:Int)+1).toNat)) (.int .i64 (v+1)) (some (j, .int .i64 v))=cO (dm row (k+1) t.beg):=by
      have:=lj (dm row k t.beg) (row.take (k+1)) (v+1);rw[h7]at this;rw[e1,jc,gZ h7];exact this
     repeat' (first|refine aa.aF ?_|refine aa.bh true ?_|refine aa.eP true ?_|refine aa.iU true ?_|refine aa.cE ?_|refine aa.aV ?_|refine aa.ah ?_|refine aa.ae ?_|refine aa.ak ?_|refine aa.aM ?_|refine aa.aD ?_|refine aa.bw ?_|refine aa.jV ?_|refine aa.jT ?_|refine aa.il ?_|intro _|refine aa.aA ?_|refine aa.aJ ?_)
     exact aa.round [(62,I ((k+1:Nat):Int)),(61,I row.length),(3, .ptr 5 0),(0, .ptr 0 0)] (row.length-(k+1)) (by omega) ⟨rfl,rfl,rfl,rfl,trivial⟩ ⟨k+1,rfl,hlt,rfl,congrArg (fun x=>[aN.cells [.own 2 (bK t.codes) 4, .mp 1, .mp 2, .mp 3,I t.lng],aN.map (cO t.sym),aN.map (fP t.rws),aN.map (x),aN.front 321 2 (bK t.codes).length,aN.cells [S row,I sy]]) hput⟩
   ·obtain rfl:k=row.length:=by omega
    repeat (first|refine aa.aF ?_|refine aa.bh true ?_|refine aa.eP true ?_|refine aa.iU true ?_|refine aa.cE ?_|refine aa.aV ?_|refine aa.ah ?_|refine aa.ae ?_|refine aa.ak ?_|refine aa.aM ?_|refine aa.aD ?_|refine aa.bw ?_)
    refine aa.out rfl ⟨_,rfl,?_⟩;repeat (first|refine aa.aF ?_|refine aa.bh true ?_|refine aa.eP true ?_|refine aa.iU true ?_|refine aa.cE ?_|refine aa.aV ?_|refine aa.ah ?_|refine aa.ae ?_|refine aa.ak ?_|refine aa.aM ?_|refine aa.aD ?_|refine aa.bw ?_)
    apply aa.Gh [1,2];exact fun _ _ _ h=>h
    rfl;rfl;decide +kernel;rfl
    (repeat (first|exact dJ.nil _|(apply dJ.cons true;rfl;rfl;rfl;rfl;rfl;first|exact True.intro|omega)))
    (apply fU.cons;(apply gz.mapEntry;rfl;rfl;rfl;rfl;rfl;rfl;rfl;rfl;rfl;rfl;rfl;kernel_rfl;rfl;rfl;exact f5;rfl))
    (apply fU.cons;(apply gz.q true;rfl;rfl;rfl;rfl;exact True.intro))
    (apply fU.cons;(apply gz.entryStore;rfl;rfl;rfl;rfl;rfl;rfl;rfl;(simp only[List.length_append,List.length_cons,List.length_nil,oK];omega);rfl))
    (apply fU.cons;(apply gz.mapEntry;rfl;rfl;rfl;rfl;rfl;rfl;rfl;rfl;rfl;rfl;rfl;kernel_rfl;rfl;rfl;exact f1;rfl))
    (apply fU.cons;(apply gz.q true;rfl;rfl;rfl;rfl;exact True.intro))
    (apply fU.cons;(apply gz.entryStore;rfl;rfl;rfl;rfl;rfl;rfl;rfl;(simp only[List.length_append,List.length_cons,List.length_nil,oK];omega);rfl))
    exact fU.nil _ _;exact Nat.le_refl _;simp only[List.set_cons_succ,List.set_cons_zero,oK,sZ];repeat (first|refine aa.aF ?_|refine aa.bh true ?_|refine aa.eP true ?_|refine aa.iU true ?_|refine aa.cE ?_|refine aa.aV ?_|refine aa.ah ?_|refine aa.ae ?_|refine aa.ak ?_|refine aa.aM ?_|refine aa.aD ?_|refine aa.bw ?_)
    apply aa.Gi;exact fun _ _ _ h=>h
    rfl;rfl;decide +kernel
    (repeat (first|exact dJ.nil _|(apply dJ.cons true;rfl;rfl;rfl;rfl;rfl;first|exact True.intro|omega)))
    (apply StepB.buildSlice;rfl;rfl;rfl;rfl;rfl;rfl;rfl;rfl;rfl;rfl;rfl)
    exact Nat.le_refl _;repeat' (first|refine aa.aF ?_|(apply aa.append;(iterate 11 rfl);(first|rfl|(simp only[List.length_append,List.length_map,List.length_cons,List.length_nil];omega));(first|(simp only[List.length_append,List.length_map,List.length_cons,List.length_nil];omega)|(simp only[fC,List.length_cons,List.length_nil];omega));simp only[List.set_cons_zero,List.set_cons_succ])|refine aa.q'f true ?_|refine aa.MK true ?_|refine aa.Ml true ?_|refine aa.cE ?_|refine aa.aV ?_|refine aa.ah ?_|refine aa.ae ?_|refine aa.ak ?_|refine aa.aM ?_|refine aa.aD ?_|refine aa.bw ?_|intro _|refine aa.aA ?_|refine aa.aJ ?_)
    all_goals refine⟨rfl,?_⟩
    have s1:jC (cO t.sym++[(.str row, .int .i64 0)]) ((cO t.sym).length:Int).toNat (.int .i64 (bK t.codes).length)=cO (ij t row sy).sym:=by
     rw[iX _ _ _ _ _ rfl];unfold ij;rw[qE,fC]
    have s2:jC (fP t.rws++[(.int .i64 sy, .int .i64 0)]) ((fP t.rws).length:Int).toNat (.int .i64 (bK t.codes).length)=fP (ij t row sy).rws:=by
     rw[iX _ _ _ _ _ rfl];unfold ij;rw[qN,fC]
    have s3:bK (ij t row sy).codes=bK t.codes++[mF (row,sy)]:=by unfold ij;exact vA _ _
    rw[←s1,←s2,s3];rfl
 | some jv =>
  obtain⟨j,v⟩:=jv;rw[h4]at f2;have h5:=gZ h4;rw[h5]at h3;refine ACalls.en Tryz.func314 Tryz.ntmps314 ?_;repeat (first|refine aa.aF ?_|refine aa.bh true ?_|refine aa.eP true ?_|refine aa.iU true ?_|refine aa.aR (hr) ?_|refine aa.cE ?_|refine aa.aV ?_|refine aa.ah ?_|refine aa.ae ?_|refine aa.ak ?_|refine aa.aM ?_|refine aa.aD ?_|refine aa.bw ?_|((first|apply aa.ji|apply aa.jh);(iterate 13 rfl);kernel_rfl;exact f1;rfl)|((first|apply aa.ji|apply aa.jh);(iterate 13 rfl);kernel_rfl;exact f2;rfl))
  refine aa.weak (env':=[(41,I 0),(40,I row.length),(3, .ptr 5 0),(0, .ptr 0 0)]) ⟨rfl,rfl,rfl,rfl,trivial⟩ ?_;refine aa.loop (fun m env H=>∃k:Nat,m=row.length-k∧k≤row.length∧(∀n,n<k→dH (row.take (n+1)) t.sym 0=none)∧env=[(41,I (k:Int)),(40,I row.length),(3, .ptr 5 0),(0, .ptr 0 0)]∧H=[.cells [.own 2 (bK t.codes) 4, .mp 1, .mp 2, .mp 3,I t.lng], .map (cO t.sym), .map (fP t.rws), .map (cO t.beg), .front 321 2 (bK t.codes).length, .cells [S row,I sy]]) row.length
   ⟨0,rfl,by omega,fun n hn=>absurd hn (by omega),rfl,rfl⟩ ?_
  rintro m env H ⟨k,rfl,hk,hw,rfl,rfl⟩;have e1:=tk1 row k;have f3:=eC (row.take ((k:Int)+1).toNat) t.sym 0;rw[e1]at f3;rcases Nat.lt_or_ge k row.length with hlt|hge
  ·have h6:=hw4 k hlt;rw[h6]at f3;rw[←e1]at f3;repeat' (first|refine aa.aF ?_|refine aa.bh true ?_|refine aa.eP true ?_|refine aa.iU true ?_|refine aa.cE ?_|refine aa.aV ?_|refine aa.ah ?_|refine aa.ae ?_|refine aa.ak ?_|refine aa.aM ?_|refine aa.aD ?_|refine aa.bw ?_|((first|apply aa.ji|apply aa.jh);(iterate 13 rfl);kernel_rfl;exact f3;rfl)|intro _|refine aa.aA ?_|refine aa.aJ ?_)
   exact aa.round [(41,I ((k+1:Nat):Int)),(40,I row.length),(3, .ptr 5 0),(0, .ptr 0 0)] (row.length-(k+1)) (by omega) ⟨rfl,rfl,rfl,rfl,trivial⟩ ⟨k+1,rfl,hlt,fun n _=>hw4 n (by omega),rfl,rfl⟩
  ·obtain rfl:k=row.length:=by omega
   repeat' (first|refine aa.aF ?_|refine aa.bh true ?_|refine aa.eP true ?_|refine aa.iU true ?_|refine aa.cE ?_|refine aa.aV ?_|refine aa.ah ?_|refine aa.ae ?_|refine aa.ak ?_|refine aa.aM ?_|refine aa.aD ?_|refine aa.bw ?_|intro _|refine aa.aA ?_|refine aa.aJ ?_)
   refine aa.weak (env':=[(62,I 0),(61,I row.length),(3, .ptr 5 0),(0, .ptr 0 0)]) ⟨rfl,rfl,rfl,rfl,trivial⟩ ?_;refine aa.loop (fun m env H=>∃k:Nat,m=row.length-k∧k≤row.length∧env=[(62,I (k:Int)),(61,I row.length),(3, .ptr 5 0),(0, .ptr 0 0)]∧H=[.cells [.own 2 (bK t.codes) 4, .mp 1, .mp 2, .mp 3,I t.lng], .map (cO t.sym), .map (fP t.rws), .map (cO (dm row k t.beg)), .front 321 2 (bK t.codes).length, .cells [S row,I sy]]) row.length
    ⟨0,rfl,by omega,rfl,by rw[wm]⟩ ?_
   rintro m env H ⟨k,rfl,hk,rfl,rfl⟩;have e1:=tk1 row k;have f4:=eC (row.take ((k:Int)+1).toNat) (dm row k t.beg) 0;rw[e1]at f4;have hbd:=mH row t.beg 1000000 hN k (row.take (k+1));rcases Nat.lt_or_ge k row.length with hlt|hge
   ·cases h7:dH (row.take (k+1)) (dm row k t.beg) 0 with
    | none =>
     rw[h7]at f4;rw[←e1]at f4;have hput:rN (cO (dm row k t.beg)) (.str (row.take ((k:Int)+1).toNat)) (.int .i64 (0+1)) none=cO (dm row (k+1) t.beg):=by
      have:=lj (dm row k t.beg) (row.take (k+1)) (0+1);rw[h7]at this;rw[e1,jc,nW h7];exact this
     repeat' (first|refine aa.aF ?_|refine aa.bh true ?_|refine aa.eP true ?_|refine aa.iU true ?_|refine aa.cE ?_|refine aa.aV ?_|refine aa.ah ?_|refine aa.ae ?_|refine aa.ak ?_|refine aa.aM ?_|refine aa.aD ?_|refine aa.bw ?_|refine aa.jV ?_|refine aa.jT ?_|refine aa.il ?_|intro _|refine aa.aA ?_|refine aa.aJ ?_)
     exact aa.round [(62,I ((k+1:Nat):Int)),(61,I row.length),(3, .ptr 5 0),(0, .ptr 0 0)] (row.length-(k+1)) (by omega) ⟨rfl,rfl,rfl,rfl,trivial⟩ ⟨k+1,rfl,hlt,rfl,congrArg (fun x=>[aN.cells [.own 2 (bK t.codes) 4, .mp 1, .mp 2, .mp 3,I t.lng],aN.map (cO t.sym),aN.map (fP t.rws),aN.map (x),aN.front 321 2 (bK t.codes).length,aN.cells [S row,I sy]]) hput⟩
    | some jv =>
     obtain⟨j,v⟩:=jv;rw[gZ h7]at hbd;rw[h7]at f4;rw[←e1]at f4;have hput:rN (cO (dm row k t.beg)) (.str (row.take ((k:Int)+1).toNat)) (.int .i64 (v+1)) (some (j, .int .i64 v))=cO (dm row (k+1) t.beg):=by
      have:=lj (dm row k t.beg) (row.take (k+1)) (v+1);rw[h7]at this;rw[e1,jc,gZ h7];exact this
     repeat' (first|refine aa.aF ?_|refine aa.bh true ?_|refine aa.eP true ?_|refine aa.iU true ?_|refine aa.cE ?_|refine aa.aV ?_|refine aa.ah ?_|refine aa.ae ?_|refine aa.ak ?_|refine aa.aM ?_|refine aa.aD ?_|refine aa.bw ?_|refine aa.jV ?_|refine aa.jT ?_|refine aa.il ?_|intro _|refine aa.aA ?_|refine aa.aJ ?_)
     exact aa.round [(62,I ((k+1:Nat):Int)),(61,I row.length),(3, .ptr 5 0),(0, .ptr 0 0)] (row.length-(k+1)) (by omega) ⟨rfl,rfl,rfl,rfl,trivial⟩ ⟨k+1,rfl,hlt,rfl,congrArg (fun x=>[aN.cells [.own 2 (bK t.codes) 4, .mp 1, .mp 2, .mp 3,I t.lng],aN.map (cO t.sym),aN.map (fP t.rws),aN.map (x),aN.front 321 2 (bK t.codes).length,aN.cells [S row,I sy]]) hput⟩
   ·obtain rfl:k=row.length:=by omega
    repeat (first|refine aa.aF ?_|refine aa.bh true ?_|refine aa.eP true ?_|refine aa.iU true ?_|refine aa.cE ?_|refine aa.aV ?_|refine aa.ah ?_|refine aa.ae ?_|refine aa.ak ?_|refine aa.aM ?_|refine aa.aD ?_|refine aa.bw ?_)
    refine aa.out rfl ⟨_,rfl,?_⟩;repeat (first|refine aa.aF ?_|refine aa.bh true ?_|refine aa.eP true ?_|refine aa.iU true ?_|refine aa.cE ?_|refine aa.aV ?_|refine aa.ah ?_|refine aa.ae ?_|refine aa.ak ?_|refine aa.aM ?_|refine aa.aD ?_|refine aa.bw ?_)
    apply aa.Gh [1,2];exact fun _ _ _ h=>h
    rfl;rfl;decide +kernel;rfl
    (repeat (first|exact dJ.nil _|(apply dJ.cons true;rfl;rfl;rfl;rfl;rfl;first|exact True.intro|omega)))
    (apply fU.cons;(apply gz.mapEntry;rfl;rfl;rfl;rfl;rfl;rfl;rfl;rfl;rfl;rfl;rfl;kernel_rfl;rfl;rfl;exact f5;rfl))
    (apply fU.cons;(apply gz.q true;rfl;rfl;rfl;rfl;exact True.intro))
    (apply fU.cons;(apply gz.entryStore;rfl;rfl;rfl;rfl;rfl;rfl;rfl;(simp only[List.length_append,List.length_cons,List.length_nil,oK];omega);rfl))
    (apply fU.cons;(apply gz.mapEntry;rfl;rfl;rfl;rfl;rfl;rfl;rfl;rfl;rfl;rfl;rfl;kernel_rfl;rfl;rfl;exact f1;rfl))
    (apply fU.cons;(apply gz.q true;rfl;rfl;rfl;rfl;exact True.intro))
    (apply fU.cons;(apply gz.entryStore;rfl;rfl;rfl;rfl;rfl;rfl;rfl;(simp only[List.length_append,List.length_cons,List.length_nil,oK];omega);rfl))
    exact fU.nil _ _;exact Nat.le_refl _;simp only[List.set_cons_succ,List.set_cons_zero,oK,sZ];repeat (first|refine aa.aF ?_|refine aa.bh true ?_|refine aa.eP true ?_|refine aa.iU true ?_|refine aa.cE ?_|refine aa.aV ?_|refine aa.ah ?_|refine aa.ae ?_|refine aa.ak ?_|refine aa.aM ?_|refine aa.aD ?_|refine aa.bw ?_)
    apply aa.Gi;exact fun _ _ _ h=>h
    rfl;rfl;decide +kernel
    (repeat (first|exact dJ.nil _|(apply dJ.cons true;rfl;rfl;rfl;rfl;rfl;first|exact True.intro|omega)))
    (apply StepB.buildSlice;rfl;rfl;rfl;rfl;rfl;rfl;rfl;rfl;rfl;rfl;rfl)
    exact Nat.le_refl _;repeat' (first|refine aa.aF ?_|(apply aa.append;(iterate 11 rfl);(first|rfl|(simp only[List.length_append,List.length_map,List.length_cons,List.length_nil];omega));(first|(simp only[List.length_append,List.length_map,List.length_cons,List.length_nil];omega)|(simp only[fC,List.length_cons,List.length_nil];omega));simp only[List.set_cons_zero,List.set_cons_succ])|refine aa.q'f true ?_|refine aa.MK true ?_|refine aa.Ml true ?_|refine aa.cE ?_|refine aa.aV ?_|refine aa.ah ?_|refine aa.ae ?_|refine aa.ak ?_|refine aa.aM ?_|refine aa.aD ?_|refine aa.bw ?_|intro _|refine aa.aA ?_|refine aa.aJ ?_)
    all_goals refine⟨rfl,?_⟩
    have s1:jC (cO t.sym++[(.str row, .int .i64 0)]) ((cO t.sym).length:Int).toNat (.int .i64 (bK t.codes).length)=cO (ij t row sy).sym:=by
     rw[iX _ _ _ _ _ rfl];unfold ij;rw[qE,fC]
    have s2:jC (fP t.rws++[(.int .i64 sy, .int .i64 0)]) ((fP t.rws).length:Int).toNat (.int .i64 (bK t.codes).length)=fP (ij t row sy).rws:=by
     rw[iX _ _ _ _ _ rfl];unfold ij;rw[qN,fC]
    have s3:bK (ij t row sy).codes=bK t.codes++[mF (row,sy)]:=by unfold ij;exact vA _ _
    rw[←s1,←s2,s3];rfl
end Px
end Go.Proofs.YtbpednchkndocaaGreatDoor.Av
