/- prefix's add: a code is taken in. -/
import Derived.Test.YtbpednchkndocaaGreatDoorPe
import Derived.Test.YtbpednchkndocaaGreatDoorPn
set_option linter.unusedVariables false
set_option linter.unusedSimpArgs false
set_option maxRecDepth 100000
set_option maxHeartbeats 64000000
namespace Go.Proofs.YtbpednchkndocaaGreatDoor.Av
namespace Px
open Go Bt
attribute [local irreducible] aa ACalls
variable {gl:List (Nat×List D)}
theorem vu (p:List UInt8×Int):bG ([]++[p])=[lj p]:=rfl
def IC (t:Tb) (row:List UInt8) (sy:Int):List aM:=[.cells [.own 2 (bG t.codes) 5, .mp 1, .mp 2, .mp 3,I t.lng], .map (cz t.sym), .map (eM t.rws), .map (cz t.beg), .cells [S row,I sy], .front 321 2 (bG t.codes).length]
theorem ik (row:List UInt8) (k:Nat) (l:List (List UInt8×Int)):cT row (k+1) l=ym (cT row k l) (row.take (k+1)) (iM (row.take (k+1)) (cT row k l)+1):=rfl
theorem tY (row:List UInt8) (l:List (List UInt8×Int)):cT row 0 l=l:=rfl
theorem wA (row:List UInt8) (h:jI row=true):0<row.length:=by
 unfold jI at h
 rcases row with _|⟨c,r⟩
 ·simp at h
 ·simp
attribute [local irreducible] cz eM bG jI cT
theorem EW (t:Tb) (row:List UInt8) (sy:Int) (hrow:row.length≤1000000) (hb:vU t row sy=true) (hN:∀w,0≤iM w t.beg∧iM w t.beg≤1000000) (hl : -1000000≤t.lng∧t.lng≤1000000) (hc:t.codes=[]) :
  ACalls (cxg gl) 314 [.ptr 0 0, .d (lj (row,sy))] (KR t) (fun r H=>r=B true∧H=IC (gh t row sy) row sy):=by
 obtain⟨h1,hr2,h3,hw4⟩:=(vK t row sy).1 hb
 have f1:jp (.int .i64 sy) (eM t.rws) 0=some none:=by rw[pR,h1];rfl
 have f2:=dO row t.beg 0
 have hr:=tE (gl:=gl) row (by omega)
 rw[hr2]at hr
 have hne:0<row.length:=wA row hr2
 have h55:=hw4 (row.length - 1) (by omega)
 rw[show row.length - 1+1=row.length by omega,List.take_length]at h55
 have f5:jp (.str row) (cz t.sym) 0=some none:=by rw[dO,h55];rfl
 unfold KR lj
 cases h4:dB row t.beg 0 with
 |none =>
  rw[h4]at f2
  refine ACalls.en Tryz.func314 Tryz.ntmps314 ?_
  repeat (first|refine aa.aD ?_|refine aa.bh true ?_|refine aa.dK true ?_|refine aa.fP true ?_|refine aa.bI (hr) ?_|refine aa.bP ?_|refine aa.aV ?_|refine aa.ae ?_|refine aa.af ?_|refine aa.ai ?_|refine aa.ba ?_|refine aa.aA ?_|refine aa.aU ?_|((first|apply aa.eH|apply aa.eG);(iterate 13 rfl);kernel_rfl;exact f1;rfl)|((first|apply aa.eH|apply aa.eG);(iterate 13 rfl);kernel_rfl;exact f2;rfl))
  refine aa.weak (env':=[(41,I 0),(40,I row.length),(3, .ptr 4 0),(0, .ptr 0 0)]) ⟨rfl,rfl,rfl,rfl,trivial⟩ ?_
  refine aa.loop (fun m env H=>∃k:Nat,m=row.length - k∧k≤row.length∧(∀n,n<k→dB (row.take (n+1)) t.sym 0=none)∧env=[(41,I (k:Int)),(40,I row.length),(3, .ptr 4 0),(0, .ptr 0 0)]∧H=[.cells [.d .aY, .mp 1, .mp 2, .mp 3,I t.lng], .map (cz t.sym), .map (eM t.rws), .map (cz t.beg), .cells [S row,I sy]]) row.length
   ⟨0,rfl,by omega,fun n hn=>absurd hn (by omega),rfl,rfl⟩ ?_
  rintro m env H ⟨k,rfl,hk,hw,rfl,rfl⟩
  have e1:=tk1 row k
  have f3:=dO (row.take ((k:Int)+1).toNat) t.sym 0
  rw[e1]at f3
  rcases Nat.lt_or_ge k row.length with hlt|hge
  ·have h6:=hw4 k hlt
   rw[h6]at f3
   rw[←e1]at f3
   repeat' (first|refine aa.aD ?_|refine aa.bh true ?_|refine aa.dK true ?_|refine aa.fP true ?_|refine aa.bP ?_|refine aa.aV ?_|refine aa.ae ?_|refine aa.af ?_|refine aa.ai ?_|refine aa.ba ?_|refine aa.aA ?_|refine aa.aU ?_|((first|apply aa.eH|apply aa.eG);(iterate 13 rfl);kernel_rfl;exact f3;rfl)|intro _|refine aa.aI ?_)
   exact aa.round [(41,I ((k+1:Nat):Int)),(40,I row.length),(3, .ptr 4 0),(0, .ptr 0 0)] (row.length - (k+1)) (by omega) ⟨rfl,rfl,rfl,rfl,trivial⟩ ⟨k+1,rfl,hlt,fun n _=>hw4 n (by omega),rfl,rfl⟩
  ·obtain rfl:k=row.length:=by omega
   repeat' (first|refine aa.aD ?_|refine aa.bh true ?_|refine aa.dK true ?_|refine aa.fP true ?_|refine aa.bP ?_|refine aa.aV ?_|refine aa.ae ?_|refine aa.af ?_|refine aa.ai ?_|refine aa.ba ?_|refine aa.aA ?_|refine aa.aU ?_|intro _|refine aa.aI ?_)
   refine aa.weak (env':=[(62,I 0),(61,I row.length),(3, .ptr 4 0),(0, .ptr 0 0)]) ⟨rfl,rfl,rfl,rfl,trivial⟩ ?_
   refine aa.loop (fun m env H=>∃k:Nat,m=row.length - k∧k≤row.length∧env=[(62,I (k:Int)),(61,I row.length),(3, .ptr 4 0),(0, .ptr 0 0)]∧H=[.cells [.d .aY, .mp 1, .mp 2, .mp 3,I t.lng], .map (cz t.sym), .map (eM t.rws), .map (cz (cT row k t.beg)), .cells [S row,I sy]]) row.length
    ⟨0,rfl,by omega,rfl,by rw[tY]⟩ ?_
   rintro m env H ⟨k,rfl,hk,rfl,rfl⟩
   have e1:=tk1 row k
   have f4:=dO (row.take ((k:Int)+1).toNat) (cT row k t.beg) 0
   rw[e1]at f4
   have hbd:=lq row t.beg 1000000 hN k (row.take (k+1))
   rcases Nat.lt_or_ge k row.length with hlt|hge
   ·cases h7:dB (row.take (k+1)) (cT row k t.beg) 0 with
    |none =>
     rw[h7]at f4
     rw[←e1]at f4
     have hput:qw (cz (cT row k t.beg)) (.str (row.take ((k:Int)+1).toNat)) (.int .i64 (0+1)) none=cz (cT row (k+1) t.beg):=by
      have:=jU (cT row k t.beg) (row.take (k+1)) (0+1)
      rw[h7]at this
      rw[e1,ik,mg h7]
      exact this
     repeat' (first|refine aa.aD ?_|refine aa.bh true ?_|refine aa.dK true ?_|refine aa.fP true ?_|refine aa.bP ?_|refine aa.aV ?_|refine aa.ae ?_|refine aa.af ?_|refine aa.ai ?_|refine aa.ba ?_|refine aa.aA ?_|refine aa.aU ?_|((first|apply aa.eH|apply aa.eG);(iterate 13 rfl);kernel_rfl;exact f4;rfl)|(apply aa.mapUpdate;(iterate 11 rfl);exact f4;simp only[List.set_cons_succ,List.set_cons_zero])|intro _|refine aa.aI ?_)
     exact aa.round [(62,I ((k+1:Nat):Int)),(61,I row.length),(3, .ptr 4 0),(0, .ptr 0 0)] (row.length - (k+1)) (by omega) ⟨rfl,rfl,rfl,rfl,trivial⟩ ⟨k+1,rfl,hlt,rfl,congrArg (fun x=>[aM.cells [.d .aY, .mp 1, .mp 2, .mp 3,I t.lng],aM.map (cz t.sym),aM.map (eM t.rws),aM.map (x),aM.cells [S row,I sy]]) hput⟩
    |some jv =>
     obtain⟨j,v⟩:=jv
     rw[fU h7]at hbd
     rw[h7]at f4
     rw[←e1]at f4
     have hput:qw (cz (cT row k t.beg)) (.str (row.take ((k:Int)+1).toNat)) (.int .i64 (v+1)) (some (j, .int .i64 v))=cz (cT row (k+1) t.beg):=by
      have:=jU (cT row k t.beg) (row.take (k+1)) (v+1)
      rw[h7]at this
      rw[e1,ik,fU h7]
      exact this
     repeat' (first|refine aa.aD ?_|refine aa.bh true ?_|refine aa.dK true ?_|refine aa.fP true ?_|refine aa.bP ?_|refine aa.aV ?_|refine aa.ae ?_|refine aa.af ?_|refine aa.ai ?_|refine aa.ba ?_|refine aa.aA ?_|refine aa.aU ?_|((first|apply aa.eH|apply aa.eG);(iterate 13 rfl);kernel_rfl;exact f4;rfl)|(apply aa.mapUpdate;(iterate 11 rfl);exact f4;simp only[List.set_cons_succ,List.set_cons_zero])|intro _|refine aa.aI ?_)
     exact aa.round [(62,I ((k+1:Nat):Int)),(61,I row.length),(3, .ptr 4 0),(0, .ptr 0 0)] (row.length - (k+1)) (by omega) ⟨rfl,rfl,rfl,rfl,trivial⟩ ⟨k+1,rfl,hlt,rfl,congrArg (fun x=>[aM.cells [.d .aY, .mp 1, .mp 2, .mp 3,I t.lng],aM.map (cz t.sym),aM.map (eM t.rws),aM.map (x),aM.cells [S row,I sy]]) hput⟩
   ·obtain rfl:k=row.length:=by omega
    repeat (first|refine aa.aD ?_|refine aa.bh true ?_|refine aa.dK true ?_|refine aa.fP true ?_|refine aa.bP ?_|refine aa.aV ?_|refine aa.ae ?_|refine aa.af ?_|refine aa.ai ?_|refine aa.ba ?_|refine aa.aA ?_|refine aa.aU ?_)
    refine aa.out rfl ⟨_,rfl,?_⟩
    repeat (first|refine aa.aD ?_|refine aa.bh true ?_|refine aa.dK true ?_|refine aa.fP true ?_|refine aa.bP ?_|refine aa.aV ?_|refine aa.ae ?_|refine aa.af ?_|refine aa.ai ?_|refine aa.ba ?_|refine aa.aA ?_|refine aa.aU ?_)
    apply aa.Dr [1,2]
    exact fun _ _ _ h=>h
    rfl
    rfl
    decide +kernel
    rfl
    (repeat (first|exact cE.nil _|(apply cE.cons true;rfl;rfl;rfl;rfl;rfl;first|exact True.intro|omega)))
    (apply eX.cons;(apply fw.mapEntry;rfl;rfl;rfl;rfl;rfl;rfl;rfl;rfl;rfl;rfl;rfl;kernel_rfl;rfl;rfl;exact f5;rfl))
    (apply eX.cons;(apply fw.q true;rfl;rfl;rfl;rfl;exact True.intro))
    (apply eX.cons;(apply fw.entryStore;rfl;rfl;rfl;rfl;rfl;rfl;rfl;(simp only[List.length_append,List.length_cons,List.length_nil,mP];omega);rfl))
    (apply eX.cons;(apply fw.mapEntry;rfl;rfl;rfl;rfl;rfl;rfl;rfl;rfl;rfl;rfl;rfl;kernel_rfl;rfl;rfl;exact f1;rfl))
    (apply eX.cons;(apply fw.q true;rfl;rfl;rfl;rfl;exact True.intro))
    (apply eX.cons;(apply fw.entryStore;rfl;rfl;rfl;rfl;rfl;rfl;rfl;(simp only[List.length_append,List.length_cons,List.length_nil,mP];omega);rfl))
    exact eX.nil _ _
    exact Nat.le_refl _
    simp only[List.set_cons_succ,List.set_cons_zero,mP,qy]
    repeat (first|refine aa.aD ?_|refine aa.bh true ?_|refine aa.dK true ?_|refine aa.fP true ?_|refine aa.bP ?_|refine aa.aV ?_|refine aa.ae ?_|refine aa.af ?_|refine aa.ai ?_|refine aa.ba ?_|refine aa.aA ?_|refine aa.aU ?_)
    apply aa.Du
    exact fun _ _ _ h=>h
    rfl
    rfl
    decide +kernel
    (repeat (first|exact cE.nil _|(apply cE.cons true;rfl;rfl;rfl;rfl;rfl;first|exact True.intro|omega)))
    (apply StepB.buildSlice;rfl;rfl;rfl;rfl;rfl;rfl;rfl;rfl;rfl;rfl;rfl)
    exact Nat.le_refl _
    repeat' (first|refine aa.aD ?_|(apply aa.gW;(iterate 10 rfl);(first|(simp only[List.length_append,List.length_map,List.length_cons,List.length_nil];omega)|(simp only[dW,List.length_cons,List.length_nil];omega));simp only[List.nil_append,List.cons_append,List.length_nil,List.length_cons,Nat.reduceAdd])|((first|apply aa.q true|apply aa.qq true|apply aa.sq true);rfl;rfl;rfl;rfl;first|exact True.intro|omega|(simp only[tn,Int.reduceToNat];omega)|(simp only[dW,List.length_cons,List.length_nil];omega))|refine aa.bP ?_|refine aa.aV ?_|refine aa.ae ?_|refine aa.af ?_|refine aa.ai ?_|refine aa.ba ?_|refine aa.aA ?_|refine aa.aU ?_|intro _|refine aa.aI ?_)
    (apply aa.xB 6;rfl;rfl;rfl;rfl;rfl)
    refine⟨rfl,?_⟩
    have s1:iJ (cz t.sym++[(.str row, .int .i64 0)]) ((cz t.sym).length:Int).toNat (.int .i64 0)=cz (gh t row sy).sym:=by
     rw[ib _ _ _ _ _ rfl];unfold gh;rw[oq,hc];rfl
    have s2:iJ (eM t.rws++[(.int .i64 sy, .int .i64 0)]) ((eM t.rws).length:Int).toNat (.int .i64 0)=eM (gh t row sy).rws:=by
     rw[ib _ _ _ _ _ rfl];unfold gh;rw[oI,hc];rfl
    have s3:bG (gh t row sy).codes=[lj (row,sy)]:=by unfold gh;rw[hc];exact vu _
    unfold IC
    rw[←s1,←s2,s3]
    rfl
 |some jv =>
  obtain⟨j,v⟩:=jv
  rw[h4]at f2
  have h5:=fU h4
  rw[h5]at h3
  refine ACalls.en Tryz.func314 Tryz.ntmps314 ?_
  repeat (first|refine aa.aD ?_|refine aa.bh true ?_|refine aa.dK true ?_|refine aa.fP true ?_|refine aa.bI (hr) ?_|refine aa.bP ?_|refine aa.aV ?_|refine aa.ae ?_|refine aa.af ?_|refine aa.ai ?_|refine aa.ba ?_|refine aa.aA ?_|refine aa.aU ?_|((first|apply aa.eH|apply aa.eG);(iterate 13 rfl);kernel_rfl;exact f1;rfl)|((first|apply aa.eH|apply aa.eG);(iterate 13 rfl);kernel_rfl;exact f2;rfl))
  refine aa.weak (env':=[(41,I 0),(40,I row.length),(3, .ptr 4 0),(0, .ptr 0 0)]) ⟨rfl,rfl,rfl,rfl,trivial⟩ ?_
  refine aa.loop (fun m env H=>∃k:Nat,m=row.length - k∧k≤row.length∧(∀n,n<k→dB (row.take (n+1)) t.sym 0=none)∧env=[(41,I (k:Int)),(40,I row.length),(3, .ptr 4 0),(0, .ptr 0 0)]∧H=[.cells [.d .aY, .mp 1, .mp 2, .mp 3,I t.lng], .map (cz t.sym), .map (eM t.rws), .map (cz t.beg), .cells [S row,I sy]]) row.length
   ⟨0,rfl,by omega,fun n hn=>absurd hn (by omega),rfl,rfl⟩ ?_
  rintro m env H ⟨k,rfl,hk,hw,rfl,rfl⟩
  have e1:=tk1 row k
  have f3:=dO (row.take ((k:Int)+1).toNat) t.sym 0
  rw[e1]at f3
  rcases Nat.lt_or_ge k row.length with hlt|hge
  ·have h6:=hw4 k hlt
   rw[h6]at f3
   rw[←e1]at f3
   repeat' (first|refine aa.aD ?_|refine aa.bh true ?_|refine aa.dK true ?_|refine aa.fP true ?_|refine aa.bP ?_|refine aa.aV ?_|refine aa.ae ?_|refine aa.af ?_|refine aa.ai ?_|refine aa.ba ?_|refine aa.aA ?_|refine aa.aU ?_|((first|apply aa.eH|apply aa.eG);(iterate 13 rfl);kernel_rfl;exact f3;rfl)|intro _|refine aa.aI ?_)
   exact aa.round [(41,I ((k+1:Nat):Int)),(40,I row.length),(3, .ptr 4 0),(0, .ptr 0 0)] (row.length - (k+1)) (by omega) ⟨rfl,rfl,rfl,rfl,trivial⟩ ⟨k+1,rfl,hlt,fun n _=>hw4 n (by omega),rfl,rfl⟩
  ·obtain rfl:k=row.length:=by omega
   repeat' (first|refine aa.aD ?_|refine aa.bh true ?_|refine aa.dK true ?_|refine aa.fP true ?_|refine aa.bP ?_|refine aa.aV ?_|refine aa.ae ?_|refine aa.af ?_|refine aa.ai ?_|refine aa.ba ?_|refine aa.aA ?_|refine aa.aU ?_|intro _|refine aa.aI ?_)
   refine aa.weak (env':=[(62,I 0),(61,I row.length),(3, .ptr 4 0),(0, .ptr 0 0)]) ⟨rfl,rfl,rfl,rfl,trivial⟩ ?_
   refine aa.loop (fun m env H=>∃k:Nat,m=row.length - k∧k≤row.length∧env=[(62,I (k:Int)),(61,I row.length),(3, .ptr 4 0),(0, .ptr 0 0)]∧H=[.cells [.d .aY, .mp 1, .mp 2, .mp 3,I t.lng], .map (cz t.sym), .map (eM t.rws), .map (cz (cT row k t.beg)), .cells [S row,I sy]]) row.length
    ⟨0,rfl,by omega,rfl,by rw[tY]⟩ ?_
   rintro m env H ⟨k,rfl,hk,rfl,rfl⟩
   have e1:=tk1 row k
   have f4:=dO (row.take ((k:Int)+1).toNat) (cT row k t.beg) 0
   rw[e1]at f4
   have hbd:=lq row t.beg 1000000 hN k (row.take (k+1))
   rcases Nat.lt_or_ge k row.length with hlt|hge
   ·cases h7:dB (row.take (k+1)) (cT row k t.beg) 0 with
    |none =>
     rw[h7]at f4
     rw[←e1]at f4
     have hput:qw (cz (cT row k t.beg)) (.str (row.take ((k:Int)+1).toNat)) (.int .i64 (0+1)) none=cz (cT row (k+1) t.beg):=by
      have:=jU (cT row k t.beg) (row.take (k+1)) (0+1)
      rw[h7]at this
      rw[e1,ik,mg h7]
      exact this
     repeat' (first|refine aa.aD ?_|refine aa.bh true ?_|refine aa.dK true ?_|refine aa.fP true ?_|refine aa.bP ?_|refine aa.aV ?_|refine aa.ae ?_|refine aa.af ?_|refine aa.ai ?_|refine aa.ba ?_|refine aa.aA ?_|refine aa.aU ?_|((first|apply aa.eH|apply aa.eG);(iterate 13 rfl);kernel_rfl;exact f4;rfl)|(apply aa.mapUpdate;(iterate 11 rfl);exact f4;simp only[List.set_cons_succ,List.set_cons_zero])|intro _|refine aa.aI ?_)
     exact aa.round [(62,I ((k+1:Nat):Int)),(61,I row.length),(3, .ptr 4 0),(0, .ptr 0 0)] (row.length - (k+1)) (by omega) ⟨rfl,rfl,rfl,rfl,trivial⟩ ⟨k+1,rfl,hlt,rfl,congrArg (fun x=>[aM.cells [.d .aY, .mp 1, .mp 2, .mp 3,I t.lng],aM.map (cz t.sym),aM.map (eM t.rws),aM.map (x),aM.cells [S row,I sy]]) hput⟩
    |some jv =>
     obtain⟨j,v⟩:=jv
     rw[fU h7]at hbd
     rw[h7]at f4
     rw[←e1]at f4
     have hput:qw (cz (cT row k t.beg)) (.str (row.take ((k:Int)+1).toNat)) (.int .i64 (v+1)) (some (j, .int .i64 v))=cz (cT row (k+1) t.beg):=by
      have:=jU (cT row k t.beg) (row.take (k+1)) (v+1)
      rw[h7]at this
      rw[e1,ik,fU h7]
      exact this
     repeat' (first|refine aa.aD ?_|refine aa.bh true ?_|refine aa.dK true ?_|refine aa.fP true ?_|refine aa.bP ?_|refine aa.aV ?_|refine aa.ae ?_|refine aa.af ?_|refine aa.ai ?_|refine aa.ba ?_|refine aa.aA ?_|refine aa.aU ?_|((first|apply aa.eH|apply aa.eG);(iterate 13 rfl);kernel_rfl;exact f4;rfl)|(apply aa.mapUpdate;(iterate 11 rfl);exact f4;simp only[List.set_cons_succ,List.set_cons_zero])|intro _|refine aa.aI ?_)
     exact aa.round [(62,I ((k+1:Nat):Int)),(61,I row.length),(3, .ptr 4 0),(0, .ptr 0 0)] (row.length - (k+1)) (by omega) ⟨rfl,rfl,rfl,rfl,trivial⟩ ⟨k+1,rfl,hlt,rfl,congrArg (fun x=>[aM.cells [.d .aY, .mp 1, .mp 2, .mp 3,I t.lng],aM.map (cz t.sym),aM.map (eM t.rws),aM.map (x),aM.cells [S row,I sy]]) hput⟩
   ·obtain rfl:k=row.length:=by omega
    repeat (first|refine aa.aD ?_|refine aa.bh true ?_|refine aa.dK true ?_|refine aa.fP true ?_|refine aa.bP ?_|refine aa.aV ?_|refine aa.ae ?_|refine aa.af ?_|refine aa.ai ?_|refine aa.ba ?_|refine aa.aA ?_|refine aa.aU ?_)
    refine aa.out rfl ⟨_,rfl,?_⟩
    repeat (first|refine aa.aD ?_|refine aa.bh true ?_|refine aa.dK true ?_|refine aa.fP true ?_|refine aa.bP ?_|refine aa.aV ?_|refine aa.ae ?_|refine aa.af ?_|refine aa.ai ?_|refine aa.ba ?_|refine aa.aA ?_|refine aa.aU ?_)
    apply aa.Dr [1,2]
    exact fun _ _ _ h=>h
    rfl
    rfl
    decide +kernel
    rfl
    (repeat (first|exact cE.nil _|(apply cE.cons true;rfl;rfl;rfl;rfl;rfl;first|exact True.intro|omega)))
    (apply eX.cons;(apply fw.mapEntry;rfl;rfl;rfl;rfl;rfl;rfl;rfl;rfl;rfl;rfl;rfl;kernel_rfl;rfl;rfl;exact f5;rfl))
    (apply eX.cons;(apply fw.q true;rfl;rfl;rfl;rfl;exact True.intro))
    (apply eX.cons;(apply fw.entryStore;rfl;rfl;rfl;rfl;rfl;rfl;rfl;(simp only[List.length_append,List.length_cons,List.length_nil,mP];omega);rfl))
    (apply eX.cons;(apply fw.mapEntry;rfl;rfl;rfl;rfl;rfl;rfl;rfl;rfl;rfl;rfl;rfl;kernel_rfl;rfl;rfl;exact f1;rfl))
    (apply eX.cons;(apply fw.q true;rfl;rfl;rfl;rfl;exact True.intro))
    (apply eX.cons;(apply fw.entryStore;rfl;rfl;rfl;rfl;rfl;rfl;rfl;(simp only[List.length_append,List.length_cons,List.length_nil,mP];omega);rfl))
    exact eX.nil _ _
    exact Nat.le_refl _
    simp only[List.set_cons_succ,List.set_cons_zero,mP,qy]
    repeat (first|refine aa.aD ?_|refine aa.bh true ?_|refine aa.dK true ?_|refine aa.fP true ?_|refine aa.bP ?_|refine aa.aV ?_|refine aa.ae ?_|refine aa.af ?_|refine aa.ai ?_|refine aa.ba ?_|refine aa.aA ?_|refine aa.aU ?_)
    apply aa.Du
    exact fun _ _ _ h=>h
    rfl
    rfl
    decide +kernel
    (repeat (first|exact cE.nil _|(apply cE.cons true;rfl;rfl;rfl;rfl;rfl;first|exact True.intro|omega)))
    (apply StepB.buildSlice;rfl;rfl;rfl;rfl;rfl;rfl;rfl;rfl;rfl;rfl;rfl)
    exact Nat.le_refl _
    repeat' (first|refine aa.aD ?_|(apply aa.gW;(iterate 10 rfl);(first|(simp only[List.length_append,List.length_map,List.length_cons,List.length_nil];omega)|(simp only[dW,List.length_cons,List.length_nil];omega));simp only[List.nil_append,List.cons_append,List.length_nil,List.length_cons,Nat.reduceAdd])|((first|apply aa.q true|apply aa.qq true|apply aa.sq true);rfl;rfl;rfl;rfl;first|exact True.intro|omega|(simp only[tn,Int.reduceToNat];omega)|(simp only[dW,List.length_cons,List.length_nil];omega))|refine aa.bP ?_|refine aa.aV ?_|refine aa.ae ?_|refine aa.af ?_|refine aa.ai ?_|refine aa.ba ?_|refine aa.aA ?_|refine aa.aU ?_|intro _|refine aa.aI ?_)
    (apply aa.xB 6;rfl;rfl;rfl;rfl;rfl)
    refine⟨rfl,?_⟩
    have s1:iJ (cz t.sym++[(.str row, .int .i64 0)]) ((cz t.sym).length:Int).toNat (.int .i64 0)=cz (gh t row sy).sym:=by
     rw[ib _ _ _ _ _ rfl];unfold gh;rw[oq,hc];rfl
    have s2:iJ (eM t.rws++[(.int .i64 sy, .int .i64 0)]) ((eM t.rws).length:Int).toNat (.int .i64 0)=eM (gh t row sy).rws:=by
     rw[ib _ _ _ _ _ rfl];unfold gh;rw[oI,hc];rfl
    have s3:bG (gh t row sy).codes=[lj (row,sy)]:=by unfold gh;rw[hc];exact vu _
    unfold IC
    rw[←s1,←s2,s3]
    rfl
theorem EU (t:Tb) (row:List UInt8) (sy:Int) (hrow:row.length≤1000000) (hb:vU t row sy=true) (hN:∀w,0≤iM w t.beg∧iM w t.beg≤1000000) (hl : -1000000≤t.lng∧t.lng≤1000000) (hc:t.codes.length≤1000000) :
  ACalls (cxg gl) 314 [.ptr 0 0, .d (lj (row,sy))] (IE t) (fun r H=>r=B true∧H=IE (gh t row sy)):=by
 obtain⟨h1,hr2,h3,hw4⟩:=(vK t row sy).1 hb
 have f1:jp (.int .i64 sy) (eM t.rws) 0=some none:=by rw[pR,h1];rfl
 have f2:=dO row t.beg 0
 have hr:=tE (gl:=gl) row (by omega)
 rw[hr2]at hr
 have hne:0<row.length:=wA row hr2
 have h55:=hw4 (row.length - 1) (by omega)
 rw[show row.length - 1+1=row.length by omega,List.take_length]at h55
 have f5:jp (.str row) (cz t.sym) 0=some none:=by rw[dO,h55];rfl
 unfold IE lj
 cases h4:dB row t.beg 0 with
 |none =>
  rw[h4]at f2
  refine ACalls.en Tryz.func314 Tryz.ntmps314 ?_
  repeat (first|refine aa.aD ?_|refine aa.bh true ?_|refine aa.dK true ?_|refine aa.fP true ?_|refine aa.bI (hr) ?_|refine aa.bP ?_|refine aa.aV ?_|refine aa.ae ?_|refine aa.af ?_|refine aa.ai ?_|refine aa.ba ?_|refine aa.aA ?_|refine aa.aU ?_|((first|apply aa.eH|apply aa.eG);(iterate 13 rfl);kernel_rfl;exact f1;rfl)|((first|apply aa.eH|apply aa.eG);(iterate 13 rfl);kernel_rfl;exact f2;rfl))
  refine aa.weak (env':=[(41,I 0),(40,I row.length),(3, .ptr 5 0),(0, .ptr 0 0)]) ⟨rfl,rfl,rfl,rfl,trivial⟩ ?_
  refine aa.loop (fun m env H=>∃k:Nat,m=row.length - k∧k≤row.length∧(∀n,n<k→dB (row.take (n+1)) t.sym 0=none)∧env=[(41,I (k:Int)),(40,I row.length),(3, .ptr 5 0),(0, .ptr 0 0)]∧H=[.cells [.own 2 (bG t.codes) 4, .mp 1, .mp 2, .mp 3,I t.lng], .map (cz t.sym), .map (eM t.rws), .map (cz t.beg), .front 321 2 (bG t.codes).length, .cells [S row,I sy]]) row.length
   ⟨0,rfl,by omega,fun n hn=>absurd hn (by omega),rfl,rfl⟩ ?_
  rintro m env H ⟨k,rfl,hk,hw,rfl,rfl⟩
  have e1:=tk1 row k
  have f3:=dO (row.take ((k:Int)+1).toNat) t.sym 0
  rw[e1]at f3
  rcases Nat.lt_or_ge k row.length with hlt|hge
  ·have h6:=hw4 k hlt
   rw[h6]at f3
   rw[←e1]at f3
   repeat' (first|refine aa.aD ?_|refine aa.bh true ?_|refine aa.dK true ?_|refine aa.fP true ?_|refine aa.bP ?_|refine aa.aV ?_|refine aa.ae ?_|refine aa.af ?_|refine aa.ai ?_|refine aa.ba ?_|refine aa.aA ?_|refine aa.aU ?_|((first|apply aa.eH|apply aa.eG);(iterate 13 rfl);kernel_rfl;exact f3;rfl)|intro _|refine aa.av ?_|refine aa.aI ?_)
   exact aa.round [(41,I ((k+1:Nat):Int)),(40,I row.length),(3, .ptr 5 0),(0, .ptr 0 0)] (row.length - (k+1)) (by omega) ⟨rfl,rfl,rfl,rfl,trivial⟩ ⟨k+1,rfl,hlt,fun n _=>hw4 n (by omega),rfl,rfl⟩
  ·obtain rfl:k=row.length:=by omega
   repeat' (first|refine aa.aD ?_|refine aa.bh true ?_|refine aa.dK true ?_|refine aa.fP true ?_|refine aa.bP ?_|refine aa.aV ?_|refine aa.ae ?_|refine aa.af ?_|refine aa.ai ?_|refine aa.ba ?_|refine aa.aA ?_|refine aa.aU ?_|intro _|refine aa.av ?_|refine aa.aI ?_)
   refine aa.weak (env':=[(62,I 0),(61,I row.length),(3, .ptr 5 0),(0, .ptr 0 0)]) ⟨rfl,rfl,rfl,rfl,trivial⟩ ?_
   refine aa.loop (fun m env H=>∃k:Nat,m=row.length - k∧k≤row.length∧env=[(62,I (k:Int)),(61,I row.length),(3, .ptr 5 0),(0, .ptr 0 0)]∧H=[.cells [.own 2 (bG t.codes) 4, .mp 1, .mp 2, .mp 3,I t.lng], .map (cz t.sym), .map (eM t.rws), .map (cz (cT row k t.beg)), .front 321 2 (bG t.codes).length, .cells [S row,I sy]]) row.length
    ⟨0,rfl,by omega,rfl,by rw[tY]⟩ ?_
   rintro m env H ⟨k,rfl,hk,rfl,rfl⟩
   have e1:=tk1 row k
   have f4:=dO (row.take ((k:Int)+1).toNat) (cT row k t.beg) 0
   rw[e1]at f4
   have hbd:=lq row t.beg 1000000 hN k (row.take (k+1))
   rcases Nat.lt_or_ge k row.length with hlt|hge
   ·cases h7:dB (row.take (k+1)) (cT row k t.beg) 0 with
    |none =>
     rw[h7]at f4
     rw[←e1]at f4
     have hput:qw (cz (cT row k t.beg)) (.str (row.take ((k:Int)+1).toNat)) (.int .i64 (0+1)) none=cz (cT row (k+1) t.beg):=by
      have:=jU (cT row k t.beg) (row.take (k+1)) (0+1)
      rw[h7]at this
      rw[e1,ik,mg h7]
      exact this
     repeat' (first|refine aa.aD ?_|refine aa.bh true ?_|refine aa.dK true ?_|refine aa.fP true ?_|refine aa.bP ?_|refine aa.aV ?_|refine aa.ae ?_|refine aa.af ?_|refine aa.ai ?_|refine aa.ba ?_|refine aa.aA ?_|refine aa.aU ?_|((first|apply aa.eH|apply aa.eG);(iterate 13 rfl);kernel_rfl;exact f4;rfl)|(apply aa.mapUpdate;(iterate 11 rfl);exact f4;simp only[List.set_cons_succ,List.set_cons_zero])|intro _|refine aa.av ?_|refine aa.aI ?_)
     exact aa.round [(62,I ((k+1:Nat):Int)),(61,I row.length),(3, .ptr 5 0),(0, .ptr 0 0)] (row.length - (k+1)) (by omega) ⟨rfl,rfl,rfl,rfl,trivial⟩ ⟨k+1,rfl,hlt,rfl,congrArg (fun x=>[aM.cells [.own 2 (bG t.codes) 4, .mp 1, .mp 2, .mp 3,I t.lng],aM.map (cz t.sym),aM.map (eM t.rws),aM.map (x),aM.front 321 2 (bG t.codes).length,aM.cells [S row,I sy]]) hput⟩
    |some jv =>
     obtain⟨j,v⟩:=jv
     rw[fU h7]at hbd
     rw[h7]at f4
     rw[←e1]at f4
     have hput:qw (cz (cT row k t.beg)) (.str (row.take ((k:Int)+1).toNat)) (.int .i64 (v+1)) (some (j, .int .i64 v))=cz (cT row (k+1) t.beg):=by
      have:=jU (cT row k t.beg) (row.take (k+1)) (v+1)
      rw[h7]at this
      rw[e1,ik,fU h7]
      exact this
     repeat' (first|refine aa.aD ?_|refine aa.bh true ?_|refine aa.dK true ?_|refine aa.fP true ?_|refine aa.bP ?_|refine aa.aV ?_|refine aa.ae ?_|refine aa.af ?_|refine aa.ai ?_|refine aa.ba ?_|refine aa.aA ?_|refine aa.aU ?_|((first|apply aa.eH|apply aa.eG);(iterate 13 rfl);kernel_rfl;exact f4;rfl)|(apply aa.mapUpdate;(iterate 11 rfl);exact f4;simp only[List.set_cons_succ,List.set_cons_zero])|intro _|refine aa.av ?_|refine aa.aI ?_)
     exact aa.round [(62,I ((k+1:Nat):Int)),(61,I row.length),(3, .ptr 5 0),(0, .ptr 0 0)] (row.length - (k+1)) (by omega) ⟨rfl,rfl,rfl,rfl,trivial⟩ ⟨k+1,rfl,hlt,rfl,congrArg (fun x=>[aM.cells [.own 2 (bG t.codes) 4, .mp 1, .mp 2, .mp 3,I t.lng],aM.map (cz t.sym),aM.map (eM t.rws),aM.map (x),aM.front 321 2 (bG t.codes).length,aM.cells [S row,I sy]]) hput⟩
   ·obtain rfl:k=row.length:=by omega
    repeat (first|refine aa.aD ?_|refine aa.bh true ?_|refine aa.dK true ?_|refine aa.fP true ?_|refine aa.bP ?_|refine aa.aV ?_|refine aa.ae ?_|refine aa.af ?_|refine aa.ai ?_|refine aa.ba ?_|refine aa.aA ?_|refine aa.aU ?_)
    refine aa.out rfl ⟨_,rfl,?_⟩
    repeat (first|refine aa.aD ?_|refine aa.bh true ?_|refine aa.dK true ?_|refine aa.fP true ?_|refine aa.bP ?_|refine aa.aV ?_|refine aa.ae ?_|refine aa.af ?_|refine aa.ai ?_|refine aa.ba ?_|refine aa.aA ?_|refine aa.aU ?_)
    apply aa.Dr [1,2]
    exact fun _ _ _ h=>h
    rfl
    rfl
    decide +kernel
    rfl
    (repeat (first|exact cE.nil _|(apply cE.cons true;rfl;rfl;rfl;rfl;rfl;first|exact True.intro|omega)))
    (apply eX.cons;(apply fw.mapEntry;rfl;rfl;rfl;rfl;rfl;rfl;rfl;rfl;rfl;rfl;rfl;kernel_rfl;rfl;rfl;exact f5;rfl))
    (apply eX.cons;(apply fw.q true;rfl;rfl;rfl;rfl;exact True.intro))
    (apply eX.cons;(apply fw.entryStore;rfl;rfl;rfl;rfl;rfl;rfl;rfl;(simp only[List.length_append,List.length_cons,List.length_nil,mP];omega);rfl))
    (apply eX.cons;(apply fw.mapEntry;rfl;rfl;rfl;rfl;rfl;rfl;rfl;rfl;rfl;rfl;rfl;kernel_rfl;rfl;rfl;exact f1;rfl))
    (apply eX.cons;(apply fw.q true;rfl;rfl;rfl;rfl;exact True.intro))
    (apply eX.cons;(apply fw.entryStore;rfl;rfl;rfl;rfl;rfl;rfl;rfl;(simp only[List.length_append,List.length_cons,List.length_nil,mP];omega);rfl))
    exact eX.nil _ _
    exact Nat.le_refl _
    simp only[List.set_cons_succ,List.set_cons_zero,mP,qy]
    repeat (first|refine aa.aD ?_|refine aa.bh true ?_|refine aa.dK true ?_|refine aa.fP true ?_|refine aa.bP ?_|refine aa.aV ?_|refine aa.ae ?_|refine aa.af ?_|refine aa.ai ?_|refine aa.ba ?_|refine aa.aA ?_|refine aa.aU ?_)
    apply aa.Du
    exact fun _ _ _ h=>h
    rfl
    rfl
    decide +kernel
    (repeat (first|exact cE.nil _|(apply cE.cons true;rfl;rfl;rfl;rfl;rfl;first|exact True.intro|omega)))
    (apply StepB.buildSlice;rfl;rfl;rfl;rfl;rfl;rfl;rfl;rfl;rfl;rfl;rfl)
    exact Nat.le_refl _
    repeat' (first|refine aa.aD ?_|(apply aa.append;(iterate 11 rfl);(first|rfl|(simp only[List.length_append,List.length_map,List.length_cons,List.length_nil];omega));(first|(simp only[List.length_append,List.length_map,List.length_cons,List.length_nil];omega)|(simp only[dW,List.length_cons,List.length_nil];omega));simp only[List.set_cons_zero,List.set_cons_succ])|((first|apply aa.q true|apply aa.qq true|apply aa.sq true);rfl;rfl;rfl;rfl;first|exact True.intro|omega|(simp only[tn,Int.reduceToNat];omega)|(simp only[dW,List.length_cons,List.length_nil];omega))|refine aa.bP ?_|refine aa.aV ?_|refine aa.ae ?_|refine aa.af ?_|refine aa.ai ?_|refine aa.ba ?_|refine aa.aA ?_|refine aa.aU ?_|intro _|refine aa.av ?_|refine aa.aI ?_)
    all_goals refine⟨rfl,?_⟩
    have s1:iJ (cz t.sym++[(.str row, .int .i64 0)]) ((cz t.sym).length:Int).toNat (.int .i64 (bG t.codes).length)=cz (gh t row sy).sym:=by
     rw[ib _ _ _ _ _ rfl];unfold gh;rw[oq,dW]
    have s2:iJ (eM t.rws++[(.int .i64 sy, .int .i64 0)]) ((eM t.rws).length:Int).toNat (.int .i64 (bG t.codes).length)=eM (gh t row sy).rws:=by
     rw[ib _ _ _ _ _ rfl];unfold gh;rw[oI,dW]
    have s3:bG (gh t row sy).codes=bG t.codes++[lj (row,sy)]:=by unfold gh;exact sQ _ _
    rw[←s1,←s2,s3]
    rfl
 |some jv =>
  obtain⟨j,v⟩:=jv
  rw[h4]at f2
  have h5:=fU h4
  rw[h5]at h3
  refine ACalls.en Tryz.func314 Tryz.ntmps314 ?_
  repeat (first|refine aa.aD ?_|refine aa.bh true ?_|refine aa.dK true ?_|refine aa.fP true ?_|refine aa.bI (hr) ?_|refine aa.bP ?_|refine aa.aV ?_|refine aa.ae ?_|refine aa.af ?_|refine aa.ai ?_|refine aa.ba ?_|refine aa.aA ?_|refine aa.aU ?_|((first|apply aa.eH|apply aa.eG);(iterate 13 rfl);kernel_rfl;exact f1;rfl)|((first|apply aa.eH|apply aa.eG);(iterate 13 rfl);kernel_rfl;exact f2;rfl))
  refine aa.weak (env':=[(41,I 0),(40,I row.length),(3, .ptr 5 0),(0, .ptr 0 0)]) ⟨rfl,rfl,rfl,rfl,trivial⟩ ?_
  refine aa.loop (fun m env H=>∃k:Nat,m=row.length - k∧k≤row.length∧(∀n,n<k→dB (row.take (n+1)) t.sym 0=none)∧env=[(41,I (k:Int)),(40,I row.length),(3, .ptr 5 0),(0, .ptr 0 0)]∧H=[.cells [.own 2 (bG t.codes) 4, .mp 1, .mp 2, .mp 3,I t.lng], .map (cz t.sym), .map (eM t.rws), .map (cz t.beg), .front 321 2 (bG t.codes).length, .cells [S row,I sy]]) row.length
   ⟨0,rfl,by omega,fun n hn=>absurd hn (by omega),rfl,rfl⟩ ?_
  rintro m env H ⟨k,rfl,hk,hw,rfl,rfl⟩
  have e1:=tk1 row k
  have f3:=dO (row.take ((k:Int)+1).toNat) t.sym 0
  rw[e1]at f3
  rcases Nat.lt_or_ge k row.length with hlt|hge
  ·have h6:=hw4 k hlt
   rw[h6]at f3
   rw[←e1]at f3
   repeat' (first|refine aa.aD ?_|refine aa.bh true ?_|refine aa.dK true ?_|refine aa.fP true ?_|refine aa.bP ?_|refine aa.aV ?_|refine aa.ae ?_|refine aa.af ?_|refine aa.ai ?_|refine aa.ba ?_|refine aa.aA ?_|refine aa.aU ?_|((first|apply aa.eH|apply aa.eG);(iterate 13 rfl);kernel_rfl;exact f3;rfl)|intro _|refine aa.av ?_|refine aa.aI ?_)
   exact aa.round [(41,I ((k+1:Nat):Int)),(40,I row.length),(3, .ptr 5 0),(0, .ptr 0 0)] (row.length - (k+1)) (by omega) ⟨rfl,rfl,rfl,rfl,trivial⟩ ⟨k+1,rfl,hlt,fun n _=>hw4 n (by omega),rfl,rfl⟩
  ·obtain rfl:k=row.length:=by omega
   repeat' (first|refine aa.aD ?_|refine aa.bh true ?_|refine aa.dK true ?_|refine aa.fP true ?_|refine aa.bP ?_|refine aa.aV ?_|refine aa.ae ?_|refine aa.af ?_|refine aa.ai ?_|refine aa.ba ?_|refine aa.aA ?_|refine aa.aU ?_|intro _|refine aa.av ?_|refine aa.aI ?_)
   refine aa.weak (env':=[(62,I 0),(61,I row.length),(3, .ptr 5 0),(0, .ptr 0 0)]) ⟨rfl,rfl,rfl,rfl,trivial⟩ ?_
   refine aa.loop (fun m env H=>∃k:Nat,m=row.length - k∧k≤row.length∧env=[(62,I (k:Int)),(61,I row.length),(3, .ptr 5 0),(0, .ptr 0 0)]∧H=[.cells [.own 2 (bG t.codes) 4, .mp 1, .mp 2, .mp 3,I t.lng], .map (cz t.sym), .map (eM t.rws), .map (cz (cT row k t.beg)), .front 321 2 (bG t.codes).length, .cells [S row,I sy]]) row.length
    ⟨0,rfl,by omega,rfl,by rw[tY]⟩ ?_
   rintro m env H ⟨k,rfl,hk,rfl,rfl⟩
   have e1:=tk1 row k
   have f4:=dO (row.take ((k:Int)+1).toNat) (cT row k t.beg) 0
   rw[e1]at f4
   have hbd:=lq row t.beg 1000000 hN k (row.take (k+1))
   rcases Nat.lt_or_ge k row.length with hlt|hge
   ·cases h7:dB (row.take (k+1)) (cT row k t.beg) 0 with
    |none =>
     rw[h7]at f4
     rw[←e1]at f4
     have hput:qw (cz (cT row k t.beg)) (.str (row.take ((k:Int)+1).toNat)) (.int .i64 (0+1)) none=cz (cT row (k+1) t.beg):=by
      have:=jU (cT row k t.beg) (row.take (k+1)) (0+1)
      rw[h7]at this
      rw[e1,ik,mg h7]
      exact this
     repeat' (first|refine aa.aD ?_|refine aa.bh true ?_|refine aa.dK true ?_|refine aa.fP true ?_|refine aa.bP ?_|refine aa.aV ?_|refine aa.ae ?_|refine aa.af ?_|refine aa.ai ?_|refine aa.ba ?_|refine aa.aA ?_|refine aa.aU ?_|((first|apply aa.eH|apply aa.eG);(iterate 13 rfl);kernel_rfl;exact f4;rfl)|(apply aa.mapUpdate;(iterate 11 rfl);exact f4;simp only[List.set_cons_succ,List.set_cons_zero])|intro _|refine aa.av ?_|refine aa.aI ?_)
     exact aa.round [(62,I ((k+1:Nat):Int)),(61,I row.length),(3, .ptr 5 0),(0, .ptr 0 0)] (row.length - (k+1)) (by omega) ⟨rfl,rfl,rfl,rfl,trivial⟩ ⟨k+1,rfl,hlt,rfl,congrArg (fun x=>[aM.cells [.own 2 (bG t.codes) 4, .mp 1, .mp 2, .mp 3,I t.lng],aM.map (cz t.sym),aM.map (eM t.rws),aM.map (x),aM.front 321 2 (bG t.codes).length,aM.cells [S row,I sy]]) hput⟩
    |some jv =>
     obtain⟨j,v⟩:=jv
     rw[fU h7]at hbd
     rw[h7]at f4
     rw[←e1]at f4
     have hput:qw (cz (cT row k t.beg)) (.str (row.take ((k:Int)+1).toNat)) (.int .i64 (v+1)) (some (j, .int .i64 v))=cz (cT row (k+1) t.beg):=by
      have:=jU (cT row k t.beg) (row.take (k+1)) (v+1)
      rw[h7]at this
      rw[e1,ik,fU h7]
      exact this
     repeat' (first|refine aa.aD ?_|refine aa.bh true ?_|refine aa.dK true ?_|refine aa.fP true ?_|refine aa.bP ?_|refine aa.aV ?_|refine aa.ae ?_|refine aa.af ?_|refine aa.ai ?_|refine aa.ba ?_|refine aa.aA ?_|refine aa.aU ?_|((first|apply aa.eH|apply aa.eG);(iterate 13 rfl);kernel_rfl;exact f4;rfl)|(apply aa.mapUpdate;(iterate 11 rfl);exact f4;simp only[List.set_cons_succ,List.set_cons_zero])|intro _|refine aa.av ?_|refine aa.aI ?_)
     exact aa.round [(62,I ((k+1:Nat):Int)),(61,I row.length),(3, .ptr 5 0),(0, .ptr 0 0)] (row.length - (k+1)) (by omega) ⟨rfl,rfl,rfl,rfl,trivial⟩ ⟨k+1,rfl,hlt,rfl,congrArg (fun x=>[aM.cells [.own 2 (bG t.codes) 4, .mp 1, .mp 2, .mp 3,I t.lng],aM.map (cz t.sym),aM.map (eM t.rws),aM.map (x),aM.front 321 2 (bG t.codes).length,aM.cells [S row,I sy]]) hput⟩
   ·obtain rfl:k=row.length:=by omega
    repeat (first|refine aa.aD ?_|refine aa.bh true ?_|refine aa.dK true ?_|refine aa.fP true ?_|refine aa.bP ?_|refine aa.aV ?_|refine aa.ae ?_|refine aa.af ?_|refine aa.ai ?_|refine aa.ba ?_|refine aa.aA ?_|refine aa.aU ?_)
    refine aa.out rfl ⟨_,rfl,?_⟩
    repeat (first|refine aa.aD ?_|refine aa.bh true ?_|refine aa.dK true ?_|refine aa.fP true ?_|refine aa.bP ?_|refine aa.aV ?_|refine aa.ae ?_|refine aa.af ?_|refine aa.ai ?_|refine aa.ba ?_|refine aa.aA ?_|refine aa.aU ?_)
    apply aa.Dr [1,2]
    exact fun _ _ _ h=>h
    rfl
    rfl
    decide +kernel
    rfl
    (repeat (first|exact cE.nil _|(apply cE.cons true;rfl;rfl;rfl;rfl;rfl;first|exact True.intro|omega)))
    (apply eX.cons;(apply fw.mapEntry;rfl;rfl;rfl;rfl;rfl;rfl;rfl;rfl;rfl;rfl;rfl;kernel_rfl;rfl;rfl;exact f5;rfl))
    (apply eX.cons;(apply fw.q true;rfl;rfl;rfl;rfl;exact True.intro))
    (apply eX.cons;(apply fw.entryStore;rfl;rfl;rfl;rfl;rfl;rfl;rfl;(simp only[List.length_append,List.length_cons,List.length_nil,mP];omega);rfl))
    (apply eX.cons;(apply fw.mapEntry;rfl;rfl;rfl;rfl;rfl;rfl;rfl;rfl;rfl;rfl;rfl;kernel_rfl;rfl;rfl;exact f1;rfl))
    (apply eX.cons;(apply fw.q true;rfl;rfl;rfl;rfl;exact True.intro))
    (apply eX.cons;(apply fw.entryStore;rfl;rfl;rfl;rfl;rfl;rfl;rfl;(simp only[List.length_append,List.length_cons,List.length_nil,mP];omega);rfl))
    exact eX.nil _ _
    exact Nat.le_refl _
    simp only[List.set_cons_succ,List.set_cons_zero,mP,qy]
    repeat (first|refine aa.aD ?_|refine aa.bh true ?_|refine aa.dK true ?_|refine aa.fP true ?_|refine aa.bP ?_|refine aa.aV ?_|refine aa.ae ?_|refine aa.af ?_|refine aa.ai ?_|refine aa.ba ?_|refine aa.aA ?_|refine aa.aU ?_)
    apply aa.Du
    exact fun _ _ _ h=>h
    rfl
    rfl
    decide +kernel
    (repeat (first|exact cE.nil _|(apply cE.cons true;rfl;rfl;rfl;rfl;rfl;first|exact True.intro|omega)))
    (apply StepB.buildSlice;rfl;rfl;rfl;rfl;rfl;rfl;rfl;rfl;rfl;rfl;rfl)
    exact Nat.le_refl _
    repeat' (first|refine aa.aD ?_|(apply aa.append;(iterate 11 rfl);(first|rfl|(simp only[List.length_append,List.length_map,List.length_cons,List.length_nil];omega));(first|(simp only[List.length_append,List.length_map,List.length_cons,List.length_nil];omega)|(simp only[dW,List.length_cons,List.length_nil];omega));simp only[List.set_cons_zero,List.set_cons_succ])|((first|apply aa.q true|apply aa.qq true|apply aa.sq true);rfl;rfl;rfl;rfl;first|exact True.intro|omega|(simp only[tn,Int.reduceToNat];omega)|(simp only[dW,List.length_cons,List.length_nil];omega))|refine aa.bP ?_|refine aa.aV ?_|refine aa.ae ?_|refine aa.af ?_|refine aa.ai ?_|refine aa.ba ?_|refine aa.aA ?_|refine aa.aU ?_|intro _|refine aa.av ?_|refine aa.aI ?_)
    all_goals refine⟨rfl,?_⟩
    have s1:iJ (cz t.sym++[(.str row, .int .i64 0)]) ((cz t.sym).length:Int).toNat (.int .i64 (bG t.codes).length)=cz (gh t row sy).sym:=by
     rw[ib _ _ _ _ _ rfl];unfold gh;rw[oq,dW]
    have s2:iJ (eM t.rws++[(.int .i64 sy, .int .i64 0)]) ((eM t.rws).length:Int).toNat (.int .i64 (bG t.codes).length)=eM (gh t row sy).rws:=by
     rw[ib _ _ _ _ _ rfl];unfold gh;rw[oI,dW]
    have s3:bG (gh t row sy).codes=bG t.codes++[lj (row,sy)]:=by unfold gh;exact sQ _ _
    rw[←s1,←s2,s3]
    rfl
end Px
end Go.Proofs.YtbpednchkndocaaGreatDoor.Av
