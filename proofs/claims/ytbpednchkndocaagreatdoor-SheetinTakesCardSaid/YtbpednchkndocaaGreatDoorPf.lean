/- prefix's add: a code is taken in. -/
import Derived.Test.YtbpednchkndocaaGreatDoorPe
import Derived.Test.YtbpednchkndocaaGreatDoorPn
set_option linter.unusedVariables false
set_option linter.unusedSimpArgs false
set_option maxRecDepth 100000
set_option maxHeartbeats 64000000
namespace Go.Proofs.YtbpednchkndocaaGreatDoor.Av
namespace Px
open Go Bt
attribute [local irreducible] aa ACalls
variable {gl:List (Nat×List D)}
theorem uL (p:List UInt8×Int):aT ([]++[p])=[kr p]:=rfl
def Ip (t:Tb) (row:List UInt8) (sy:Int):List au:=[.cells [.own 2 (aT t.codes) 5, .mp 1, .mp 2, .mp 3,I t.lng], .map (bG t.sym), .map (dJ t.rws), .map (bG t.beg), .cells [S row,I sy], .front 321 2 (aT t.codes).length]
theorem gp (row:List UInt8) (k:Nat) (l:List (List UInt8×Int)):bU row (k+1) l=xH (bU row k l) (row.take (k+1)) (gW (row.take (k+1)) (bU row k l)+1):=rfl
theorem sW (row:List UInt8) (l:List (List UInt8×Int)):bU row 0 l=l:=rfl
theorem vI (row:List UInt8) (h:jb row=true):0<row.length:=by
 unfold jb at h
 rcases row with _|⟨c,r⟩
 ·simp at h
 ·simp
attribute [local irreducible] bG dJ aT jb bU
theorem EE (t:Tb) (row:List UInt8) (sy:Int) (hrow:row.length≤1000000) (hb:vp t row sy=true) (hN:∀w,0≤gW w t.beg∧gW w t.beg≤1000000) (hl : -1000000≤t.lng∧t.lng≤1000000) (hc:t.codes=[]) :
  ACalls (cxg gl) 314 [.ptr 0 0, .d (kr (row,sy))] (KP t) (fun r H=>r=B true∧H=Ip (eX t row sy) row sy):=by
 obtain⟨h1,hr2,h3,hw4⟩:=(uX t row sy).1 hb
 have f1:iM (.int .i64 sy) (dJ t.rws) 0=some none:=by rw[oF,h1];rfl
 have f2:=cV row t.beg 0
 have hr:=sj (gl:=gl) row (by omega)
 rw[hr2]at hr
 have hne:0<row.length:=vI row hr2
 have h55:=hw4 (row.length - 1) (by omega)
 rw[show row.length - 1+1=row.length by omega,List.take_length]at h55
 have f5:iM (.str row) (bG t.sym) 0=some none:=by rw[cV,h55];rfl
 unfold KP kr
 cases h4:cB row t.beg 0 with
 |none =>
  rw[h4]at f2
  refine ACalls.en Tryz.func314 Tryz.ntmps314 ?_
  repeat (first|refine aa.bN true ?_|refine aa.aV (hr) ?_|((first|apply aa.dI|apply aa.dH);(iterate 13 rfl);kernel_rfl;exact f1;rfl)|((first|apply aa.dI|apply aa.dH);(iterate 13 rfl);kernel_rfl;exact f2;rfl)|refine aa.iR ?_)
  refine aa.weak (env':=[(41,I 0),(40,I row.length),(3, .ptr 4 0),(0, .ptr 0 0)]) ⟨rfl,rfl,rfl,rfl,trivial⟩ ?_
  refine aa.loop (fun m env H=>∃k:Nat,m=row.length - k∧k≤row.length∧(∀n,n<k→cB (row.take (n+1)) t.sym 0=none)∧env=[(41,I (k:Int)),(40,I row.length),(3, .ptr 4 0),(0, .ptr 0 0)]∧H=[.cells [.d .aG, .mp 1, .mp 2, .mp 3,I t.lng], .map (bG t.sym), .map (dJ t.rws), .map (bG t.beg), .cells [S row,I sy]]) row.length
   ⟨0,rfl,by omega,fun n hn=>absurd hn (by omega),rfl,rfl⟩ ?_
  rintro m env H ⟨k,rfl,hk,hw,rfl,rfl⟩
  have e1:=tk1 row k
  have f3:=cV (row.take ((k:Int)+1).toNat) t.sym 0
  rw[e1]at f3
  rcases Nat.lt_or_ge k row.length with hlt|hge
  ·have h6:=hw4 k hlt
   rw[h6]at f3
   rw[←e1]at f3
   repeat' (first|refine aa.bN true ?_|((first|apply aa.dI|apply aa.dH);(iterate 13 rfl);kernel_rfl;exact f3;rfl)|intro _|refine aa.aR ?_)
   exact aa.round [(41,I ((k+1:Nat):Int)),(40,I row.length),(3, .ptr 4 0),(0, .ptr 0 0)] (row.length - (k+1)) (by omega) ⟨rfl,rfl,rfl,rfl,trivial⟩ ⟨k+1,rfl,hlt,fun n _=>hw4 n (by omega),rfl,rfl⟩
  ·obtain rfl:k=row.length:=by omega
   repeat' (first|intro _|refine aa.aR ?_)
   refine aa.weak (env':=[(62,I 0),(61,I row.length),(3, .ptr 4 0),(0, .ptr 0 0)]) ⟨rfl,rfl,rfl,rfl,trivial⟩ ?_
   refine aa.loop (fun m env H=>∃k:Nat,m=row.length - k∧k≤row.length∧env=[(62,I (k:Int)),(61,I row.length),(3, .ptr 4 0),(0, .ptr 0 0)]∧H=[.cells [.d .aG, .mp 1, .mp 2, .mp 3,I t.lng], .map (bG t.sym), .map (dJ t.rws), .map (bG (bU row k t.beg)), .cells [S row,I sy]]) row.length
    ⟨0,rfl,by omega,rfl,by rw[sW]⟩ ?_
   rintro m env H ⟨k,rfl,hk,rfl,rfl⟩
   have e1:=tk1 row k
   have f4:=cV (row.take ((k:Int)+1).toNat) (bU row k t.beg) 0
   rw[e1]at f4
   have hbd:=kw row t.beg 1000000 hN k (row.take (k+1))
   rcases Nat.lt_or_ge k row.length with hlt|hge
   ·cases h7:cB (row.take (k+1)) (bU row k t.beg) 0 with
    |none =>
     rw[h7]at f4
     rw[←e1]at f4
     have hput:pJ (bG (bU row k t.beg)) (.str (row.take ((k:Int)+1).toNat)) (.int .i64 (0+1)) none=bG (bU row (k+1) t.beg):=by
      have:=jp (bU row k t.beg) (row.take (k+1)) (0+1)
      rw[h7]at this
      rw[e1,gp,li h7]
      exact this
     repeat' (first|refine aa.bN true ?_|((first|apply aa.dI|apply aa.dH);(iterate 13 rfl);kernel_rfl;exact f4;rfl)|(apply aa.mapUpdate;(iterate 11 rfl);exact f4;simp only[List.set_cons_succ,List.set_cons_zero])|intro _|refine aa.aR ?_)
     exact aa.round [(62,I ((k+1:Nat):Int)),(61,I row.length),(3, .ptr 4 0),(0, .ptr 0 0)] (row.length - (k+1)) (by omega) ⟨rfl,rfl,rfl,rfl,trivial⟩ ⟨k+1,rfl,hlt,rfl,congrArg (fun x=>[au.cells [.d .aG, .mp 1, .mp 2, .mp 3,I t.lng],au.map (bG t.sym),au.map (dJ t.rws),au.map (x),au.cells [S row,I sy]]) hput⟩
    |some jv =>
     obtain⟨j,v⟩:=jv
     rw[eP h7]at hbd
     rw[h7]at f4
     rw[←e1]at f4
     have hput:pJ (bG (bU row k t.beg)) (.str (row.take ((k:Int)+1).toNat)) (.int .i64 (v+1)) (some (j, .int .i64 v))=bG (bU row (k+1) t.beg):=by
      have:=jp (bU row k t.beg) (row.take (k+1)) (v+1)
      rw[h7]at this
      rw[e1,gp,eP h7]
      exact this
     repeat' (first|refine aa.bN true ?_|((first|apply aa.dI|apply aa.dH);(iterate 13 rfl);kernel_rfl;exact f4;rfl)|(apply aa.mapUpdate;(iterate 11 rfl);exact f4;simp only[List.set_cons_succ,List.set_cons_zero])|intro _|refine aa.aR ?_)
     exact aa.round [(62,I ((k+1:Nat):Int)),(61,I row.length),(3, .ptr 4 0),(0, .ptr 0 0)] (row.length - (k+1)) (by omega) ⟨rfl,rfl,rfl,rfl,trivial⟩ ⟨k+1,rfl,hlt,rfl,congrArg (fun x=>[au.cells [.d .aG, .mp 1, .mp 2, .mp 3,I t.lng],au.map (bG t.sym),au.map (dJ t.rws),au.map (x),au.cells [S row,I sy]]) hput⟩
   ·obtain rfl:k=row.length:=by omega
    repeat (first|refine aa.iR ?_)
    refine aa.out rfl ⟨_,rfl,?_⟩
    repeat (first|refine aa.iR ?_)
    apply aa.CY [1,2]
    exact fun _ _ _ h=>h
    rfl
    rfl
    decide +kernel
    rfl
    (repeat (first|exact bJ.nil _|(apply bJ.cons true;rfl;rfl;rfl;rfl;rfl;first|exact True.intro|omega)))
    (apply dP.cons;(apply dW.mapEntry;rfl;rfl;rfl;rfl;rfl;rfl;rfl;rfl;rfl;rfl;rfl;kernel_rfl;rfl;rfl;exact f5;rfl))
    (apply dP.cons;(apply dW.q true;rfl;rfl;rfl;rfl;exact True.intro))
    (apply dP.cons;(apply dW.entryStore;rfl;rfl;rfl;rfl;rfl;rfl;rfl;(simp only[List.length_append,List.length_cons,List.length_nil,lS];omega);rfl))
    (apply dP.cons;(apply dW.mapEntry;rfl;rfl;rfl;rfl;rfl;rfl;rfl;rfl;rfl;rfl;rfl;kernel_rfl;rfl;rfl;exact f1;rfl))
    (apply dP.cons;(apply dW.q true;rfl;rfl;rfl;rfl;exact True.intro))
    (apply dP.cons;(apply dW.entryStore;rfl;rfl;rfl;rfl;rfl;rfl;rfl;(simp only[List.length_append,List.length_cons,List.length_nil,lS];omega);rfl))
    exact dP.nil _ _
    exact Nat.le_refl _
    simp only[List.set_cons_succ,List.set_cons_zero,lS,pM]
    repeat (first|refine aa.iR ?_)
    apply aa.CZ
    exact fun _ _ _ h=>h
    rfl
    rfl
    decide +kernel
    (repeat (first|exact bJ.nil _|(apply bJ.cons true;rfl;rfl;rfl;rfl;rfl;first|exact True.intro|omega)))
    (apply StepB.buildSlice;rfl;rfl;rfl;rfl;rfl;rfl;rfl;rfl;rfl;rfl;rfl)
    exact Nat.le_refl _
    repeat' (first|(apply aa.fS;(iterate 10 rfl);(first|(simp only[List.length_append,List.length_map,List.length_cons,List.length_nil];omega)|(simp only[dm,List.length_cons,List.length_nil];omega));simp only[List.nil_append,List.cons_append,List.length_nil,List.length_cons,Nat.reduceAdd])|((first|apply aa.q true|apply aa.qq true|apply aa.sq true);rfl;rfl;rfl;rfl;first|exact True.intro|omega|(simp only[tn,Int.reduceToNat];omega)|(simp only[dm,List.length_cons,List.length_nil];omega))|intro _|refine aa.aR ?_)
    (apply aa.wV 6;rfl;rfl;rfl;rfl;rfl)
    refine⟨rfl,?_⟩
    have s1:gQ (bG t.sym++[(.str row, .int .i64 0)]) ((bG t.sym).length:Int).toNat (.int .i64 0)=bG (eX t row sy).sym:=by
     rw[gb _ _ _ _ _ rfl];unfold eX;rw[nD,hc];rfl
    have s2:gQ (dJ t.rws++[(.int .i64 sy, .int .i64 0)]) ((dJ t.rws).length:Int).toNat (.int .i64 0)=dJ (eX t row sy).rws:=by
     rw[gb _ _ _ _ _ rfl];unfold eX;rw[nO,hc];rfl
    have s3:aT (eX t row sy).codes=[kr (row,sy)]:=by unfold eX;rw[hc];exact uL _
    unfold Ip
    rw[←s1,←s2,s3]
    rfl
 |some jv =>
  obtain⟨j,v⟩:=jv
  rw[h4]at f2
  have h5:=eP h4
  rw[h5]at h3
  refine ACalls.en Tryz.func314 Tryz.ntmps314 ?_
  repeat (first|refine aa.bN true ?_|refine aa.aV (hr) ?_|((first|apply aa.dI|apply aa.dH);(iterate 13 rfl);kernel_rfl;exact f1;rfl)|((first|apply aa.dI|apply aa.dH);(iterate 13 rfl);kernel_rfl;exact f2;rfl)|refine aa.iR ?_)
  refine aa.weak (env':=[(41,I 0),(40,I row.length),(3, .ptr 4 0),(0, .ptr 0 0)]) ⟨rfl,rfl,rfl,rfl,trivial⟩ ?_
  refine aa.loop (fun m env H=>∃k:Nat,m=row.length - k∧k≤row.length∧(∀n,n<k→cB (row.take (n+1)) t.sym 0=none)∧env=[(41,I (k:Int)),(40,I row.length),(3, .ptr 4 0),(0, .ptr 0 0)]∧H=[.cells [.d .aG, .mp 1, .mp 2, .mp 3,I t.lng], .map (bG t.sym), .map (dJ t.rws), .map (bG t.beg), .cells [S row,I sy]]) row.length
   ⟨0,rfl,by omega,fun n hn=>absurd hn (by omega),rfl,rfl⟩ ?_
  rintro m env H ⟨k,rfl,hk,hw,rfl,rfl⟩
  have e1:=tk1 row k
  have f3:=cV (row.take ((k:Int)+1).toNat) t.sym 0
  rw[e1]at f3
  rcases Nat.lt_or_ge k row.length with hlt|hge
  ·have h6:=hw4 k hlt
   rw[h6]at f3
   rw[←e1]at f3
   repeat' (first|refine aa.bN true ?_|((first|apply aa.dI|apply aa.dH);(iterate 13 rfl);kernel_rfl;exact f3;rfl)|intro _|refine aa.aR ?_)
   exact aa.round [(41,I ((k+1:Nat):Int)),(40,I row.length),(3, .ptr 4 0),(0, .ptr 0 0)] (row.length - (k+1)) (by omega) ⟨rfl,rfl,rfl,rfl,trivial⟩ ⟨k+1,rfl,hlt,fun n _=>hw4 n (by omega),rfl,rfl⟩
  ·obtain rfl:k=row.length:=by omega
   repeat' (first|intro _|refine aa.aR ?_)
   refine aa.weak (env':=[(62,I 0),(61,I row.length),(3, .ptr 4 0),(0, .ptr 0 0)]) ⟨rfl,rfl,rfl,rfl,trivial⟩ ?_
   refine aa.loop (fun m env H=>∃k:Nat,m=row.length - k∧k≤row.length∧env=[(62,I (k:Int)),(61,I row.length),(3, .ptr 4 0),(0, .ptr 0 0)]∧H=[.cells [.d .aG, .mp 1, .mp 2, .mp 3,I t.lng], .map (bG t.sym), .map (dJ t.rws), .map (bG (bU row k t.beg)), .cells [S row,I sy]]) row.length
    ⟨0,rfl,by omega,rfl,by rw[sW]⟩ ?_
   rintro m env H ⟨k,rfl,hk,rfl,rfl⟩
   have e1:=tk1 row k
   have f4:=cV (row.take ((k:Int)+1).toNat) (bU row k t.beg) 0
   rw[e1]at f4
   have hbd:=kw row t.beg 1000000 hN k (row.take (k+1))
   rcases Nat.lt_or_ge k row.length with hlt|hge
   ·cases h7:cB (row.take (k+1)) (bU row k t.beg) 0 with
    |none =>
     rw[h7]at f4
     rw[←e1]at f4
     have hput:pJ (bG (bU row k t.beg)) (.str (row.take ((k:Int)+1).toNat)) (.int .i64 (0+1)) none=bG (bU row (k+1) t.beg):=by
      have:=jp (bU row k t.beg) (row.take (k+1)) (0+1)
      rw[h7]at this
      rw[e1,gp,li h7]
      exact this
     repeat' (first|refine aa.bN true ?_|((first|apply aa.dI|apply aa.dH);(iterate 13 rfl);kernel_rfl;exact f4;rfl)|(apply aa.mapUpdate;(iterate 11 rfl);exact f4;simp only[List.set_cons_succ,List.set_cons_zero])|intro _|refine aa.aR ?_)
     exact aa.round [(62,I ((k+1:Nat):Int)),(61,I row.length),(3, .ptr 4 0),(0, .ptr 0 0)] (row.length - (k+1)) (by omega) ⟨rfl,rfl,rfl,rfl,trivial⟩ ⟨k+1,rfl,hlt,rfl,congrArg (fun x=>[au.cells [.d .aG, .mp 1, .mp 2, .mp 3,I t.lng],au.map (bG t.sym),au.map (dJ t.rws),au.map (x),au.cells [S row,I sy]]) hput⟩
    |some jv =>
     obtain⟨j,v⟩:=jv
     rw[eP h7]at hbd
     rw[h7]at f4
     rw[←e1]at f4
     have hput:pJ (bG (bU row k t.beg)) (.str (row.take ((k:Int)+1).toNat)) (.int .i64 (v+1)) (some (j, .int .i64 v))=bG (bU row (k+1) t.beg):=by
      have:=jp (bU row k t.beg) (row.take (k+1)) (v+1)
      rw[h7]at this
      rw[e1,gp,eP h7]
      exact this
     repeat' (first|refine aa.bN true ?_|((first|apply aa.dI|apply aa.dH);(iterate 13 rfl);kernel_rfl;exact f4;rfl)|(apply aa.mapUpdate;(iterate 11 rfl);exact f4;simp only[List.set_cons_succ,List.set_cons_zero])|intro _|refine aa.aR ?_)
     exact aa.round [(62,I ((k+1:Nat):Int)),(61,I row.length),(3, .ptr 4 0),(0, .ptr 0 0)] (row.length - (k+1)) (by omega) ⟨rfl,rfl,rfl,rfl,trivial⟩ ⟨k+1,rfl,hlt,rfl,congrArg (fun x=>[au.cells [.d .aG, .mp 1, .mp 2, .mp 3,I t.lng],au.map (bG t.sym),au.map (dJ t.rws),au.map (x),au.cells [S row,I sy]]) hput⟩
   ·obtain rfl:k=row.length:=by omega
    repeat (first|refine aa.iR ?_)
    refine aa.out rfl ⟨_,rfl,?_⟩
    repeat (first|refine aa.iR ?_)
    apply aa.CY [1,2]
    exact fun _ _ _ h=>h
    rfl
    rfl
    decide +kernel
    rfl
    (repeat (first|exact bJ.nil _|(apply bJ.cons true;rfl;rfl;rfl;rfl;rfl;first|exact True.intro|omega)))
    (apply dP.cons;(apply dW.mapEntry;rfl;rfl;rfl;rfl;rfl;rfl;rfl;rfl;rfl;rfl;rfl;kernel_rfl;rfl;rfl;exact f5;rfl))
    (apply dP.cons;(apply dW.q true;rfl;rfl;rfl;rfl;exact True.intro))
    (apply dP.cons;(apply dW.entryStore;rfl;rfl;rfl;rfl;rfl;rfl;rfl;(simp only[List.length_append,List.length_cons,List.length_nil,lS];omega);rfl))
    (apply dP.cons;(apply dW.mapEntry;rfl;rfl;rfl;rfl;rfl;rfl;rfl;rfl;rfl;rfl;rfl;kernel_rfl;rfl;rfl;exact f1;rfl))
    (apply dP.cons;(apply dW.q true;rfl;rfl;rfl;rfl;exact True.intro))
    (apply dP.cons;(apply dW.entryStore;rfl;rfl;rfl;rfl;rfl;rfl;rfl;(simp only[List.length_append,List.length_cons,List.length_nil,lS];omega);rfl))
    exact dP.nil _ _
    exact Nat.le_refl _
    simp only[List.set_cons_succ,List.set_cons_zero,lS,pM]
    repeat (first|refine aa.iR ?_)
    apply aa.CZ
    exact fun _ _ _ h=>h
    rfl
    rfl
    decide +kernel
    (repeat (first|exact bJ.nil _|(apply bJ.cons true;rfl;rfl;rfl;rfl;rfl;first|exact True.intro|omega)))
    (apply StepB.buildSlice;rfl;rfl;rfl;rfl;rfl;rfl;rfl;rfl;rfl;rfl;rfl)
    exact Nat.le_refl _
    repeat' (first|(apply aa.fS;(iterate 10 rfl);(first|(simp only[List.length_append,List.length_map,List.length_cons,List.length_nil];omega)|(simp only[dm,List.length_cons,List.length_nil];omega));simp only[List.nil_append,List.cons_append,List.length_nil,List.length_cons,Nat.reduceAdd])|((first|apply aa.q true|apply aa.qq true|apply aa.sq true);rfl;rfl;rfl;rfl;first|exact True.intro|omega|(simp only[tn,Int.reduceToNat];omega)|(simp only[dm,List.length_cons,List.length_nil];omega))|intro _|refine aa.aR ?_)
    (apply aa.wV 6;rfl;rfl;rfl;rfl;rfl)
    refine⟨rfl,?_⟩
    have s1:gQ (bG t.sym++[(.str row, .int .i64 0)]) ((bG t.sym).length:Int).toNat (.int .i64 0)=bG (eX t row sy).sym:=by
     rw[gb _ _ _ _ _ rfl];unfold eX;rw[nD,hc];rfl
    have s2:gQ (dJ t.rws++[(.int .i64 sy, .int .i64 0)]) ((dJ t.rws).length:Int).toNat (.int .i64 0)=dJ (eX t row sy).rws:=by
     rw[gb _ _ _ _ _ rfl];unfold eX;rw[nO,hc];rfl
    have s3:aT (eX t row sy).codes=[kr (row,sy)]:=by unfold eX;rw[hc];exact uL _
    unfold Ip
    rw[←s1,←s2,s3]
    rfl
theorem ED (t:Tb) (row:List UInt8) (sy:Int) (hrow:row.length≤1000000) (hb:vp t row sy=true) (hN:∀w,0≤gW w t.beg∧gW w t.beg≤1000000) (hl : -1000000≤t.lng∧t.lng≤1000000) (hc:t.codes.length≤1000000) :
  ACalls (cxg gl) 314 [.ptr 0 0, .d (kr (row,sy))] (Iq t) (fun r H=>r=B true∧H=Iq (eX t row sy)):=by
 obtain⟨h1,hr2,h3,hw4⟩:=(uX t row sy).1 hb
 have f1:iM (.int .i64 sy) (dJ t.rws) 0=some none:=by rw[oF,h1];rfl
 have f2:=cV row t.beg 0
 have hr:=sj (gl:=gl) row (by omega)
 rw[hr2]at hr
 have hne:0<row.length:=vI row hr2
 have h55:=hw4 (row.length - 1) (by omega)
 rw[show row.length - 1+1=row.length by omega,List.take_length]at h55
 have f5:iM (.str row) (bG t.sym) 0=some none:=by rw[cV,h55];rfl
 unfold Iq kr
 cases h4:cB row t.beg 0 with
 |none =>
  rw[h4]at f2
  refine ACalls.en Tryz.func314 Tryz.ntmps314 ?_
  repeat (first|refine aa.bN true ?_|refine aa.aV (hr) ?_|((first|apply aa.dI|apply aa.dH);(iterate 13 rfl);kernel_rfl;exact f1;rfl)|((first|apply aa.dI|apply aa.dH);(iterate 13 rfl);kernel_rfl;exact f2;rfl)|refine aa.iR ?_)
  refine aa.weak (env':=[(41,I 0),(40,I row.length),(3, .ptr 5 0),(0, .ptr 0 0)]) ⟨rfl,rfl,rfl,rfl,trivial⟩ ?_
  refine aa.loop (fun m env H=>∃k:Nat,m=row.length - k∧k≤row.length∧(∀n,n<k→cB (row.take (n+1)) t.sym 0=none)∧env=[(41,I (k:Int)),(40,I row.length),(3, .ptr 5 0),(0, .ptr 0 0)]∧H=[.cells [.own 2 (aT t.codes) 4, .mp 1, .mp 2, .mp 3,I t.lng], .map (bG t.sym), .map (dJ t.rws), .map (bG t.beg), .front 321 2 (aT t.codes).length, .cells [S row,I sy]]) row.length
   ⟨0,rfl,by omega,fun n hn=>absurd hn (by omega),rfl,rfl⟩ ?_
  rintro m env H ⟨k,rfl,hk,hw,rfl,rfl⟩
  have e1:=tk1 row k
  have f3:=cV (row.take ((k:Int)+1).toNat) t.sym 0
  rw[e1]at f3
  rcases Nat.lt_or_ge k row.length with hlt|hge
  ·have h6:=hw4 k hlt
   rw[h6]at f3
   rw[←e1]at f3
   repeat' (first|refine aa.bN true ?_|((first|apply aa.dI|apply aa.dH);(iterate 13 rfl);kernel_rfl;exact f3;rfl)|intro _|refine aa.aR ?_)
   exact aa.round [(41,I ((k+1:Nat):Int)),(40,I row.length),(3, .ptr 5 0),(0, .ptr 0 0)] (row.length - (k+1)) (by omega) ⟨rfl,rfl,rfl,rfl,trivial⟩ ⟨k+1,rfl,hlt,fun n _=>hw4 n (by omega),rfl,rfl⟩
  ·obtain rfl:k=row.length:=by omega
   repeat' (first|intro _|refine aa.aR ?_)
   refine aa.weak (env':=[(62,I 0),(61,I row.length),(3, .ptr 5 0),(0, .ptr 0 0)]) ⟨rfl,rfl,rfl,rfl,trivial⟩ ?_
   refine aa.loop (fun m env H=>∃k:Nat,m=row.length - k∧k≤row.length∧env=[(62,I (k:Int)),(61,I row.length),(3, .ptr 5 0),(0, .ptr 0 0)]∧H=[.cells [.own 2 (aT t.codes) 4, .mp 1, .mp 2, .mp 3,I t.lng], .map (bG t.sym), .map (dJ t.rws), .map (bG (bU row k t.beg)), .front 321 2 (aT t.codes).length, .cells [S row,I sy]]) row.length
    ⟨0,rfl,by omega,rfl,by rw[sW]⟩ ?_
   rintro m env H ⟨k,rfl,hk,rfl,rfl⟩
   have e1:=tk1 row k
   have f4:=cV (row.take ((k:Int)+1).toNat) (bU row k t.beg) 0
   rw[e1]at f4
   have hbd:=kw row t.beg 1000000 hN k (row.take (k+1))
   rcases Nat.lt_or_ge k row.length with hlt|hge
   ·cases h7:cB (row.take (k+1)) (bU row k t.beg) 0 with
    |none =>
     rw[h7]at f4
     rw[←e1]at f4
     have hput:pJ (bG (bU row k t.beg)) (.str (row.take ((k:Int)+1).toNat)) (.int .i64 (0+1)) none=bG (bU row (k+1) t.beg):=by
      have:=jp (bU row k t.beg) (row.take (k+1)) (0+1)
      rw[h7]at this
      rw[e1,gp,li h7]
      exact this
     repeat' (first|refine aa.bN true ?_|((first|apply aa.dI|apply aa.dH);(iterate 13 rfl);kernel_rfl;exact f4;rfl)|(apply aa.mapUpdate;(iterate 11 rfl);exact f4;simp only[List.set_cons_succ,List.set_cons_zero])|intro _|refine aa.aR ?_)
     exact aa.round [(62,I ((k+1:Nat):Int)),(61,I row.length),(3, .ptr 5 0),(0, .ptr 0 0)] (row.length - (k+1)) (by omega) ⟨rfl,rfl,rfl,rfl,trivial⟩ ⟨k+1,rfl,hlt,rfl,congrArg (fun x=>[au.cells [.own 2 (aT t.codes) 4, .mp 1, .mp 2, .mp 3,I t.lng],au.map (bG t.sym),au.map (dJ t.rws),au.map (x),au.front 321 2 (aT t.codes).length,au.cells [S row,I sy]]) hput⟩
    |some jv =>
     obtain⟨j,v⟩:=jv
     rw[eP h7]at hbd
     rw[h7]at f4
     rw[←e1]at f4
     have hput:pJ (bG (bU row k t.beg)) (.str (row.take ((k:Int)+1).toNat)) (.int .i64 (v+1)) (some (j, .int .i64 v))=bG (bU row (k+1) t.beg):=by
      have:=jp (bU row k t.beg) (row.take (k+1)) (v+1)
      rw[h7]at this
      rw[e1,gp,eP h7]
      exact this
     repeat' (first|refine aa.bN true ?_|((first|apply aa.dI|apply aa.dH);(iterate 13 rfl);kernel_rfl;exact f4;rfl)|(apply aa.mapUpdate;(iterate 11 rfl);exact f4;simp only[List.set_cons_succ,List.set_cons_zero])|intro _|refine aa.aR ?_)
     exact aa.round [(62,I ((k+1:Nat):Int)),(61,I row.length),(3, .ptr 5 0),(0, .ptr 0 0)] (row.length - (k+1)) (by omega) ⟨rfl,rfl,rfl,rfl,trivial⟩ ⟨k+1,rfl,hlt,rfl,congrArg (fun x=>[au.cells [.own 2 (aT t.codes) 4, .mp 1, .mp 2, .mp 3,I t.lng],au.map (bG t.sym),au.map (dJ t.rws),au.map (x),au.front 321 2 (aT t.codes).length,au.cells [S row,I sy]]) hput⟩
   ·obtain rfl:k=row.length:=by omega
    repeat (first|refine aa.iR ?_)
    refine aa.out rfl ⟨_,rfl,?_⟩
    repeat (first|refine aa.iR ?_)
    apply aa.CY [1,2]
    exact fun _ _ _ h=>h
    rfl
    rfl
    decide +kernel
    rfl
    (repeat (first|exact bJ.nil _|(apply bJ.cons true;rfl;rfl;rfl;rfl;rfl;first|exact True.intro|omega)))
    (apply dP.cons;(apply dW.mapEntry;rfl;rfl;rfl;rfl;rfl;rfl;rfl;rfl;rfl;rfl;rfl;kernel_rfl;rfl;rfl;exact f5;rfl))
    (apply dP.cons;(apply dW.q true;rfl;rfl;rfl;rfl;exact True.intro))
    (apply dP.cons;(apply dW.entryStore;rfl;rfl;rfl;rfl;rfl;rfl;rfl;(simp only[List.length_append,List.length_cons,List.length_nil,lS];omega);rfl))
    (apply dP.cons;(apply dW.mapEntry;rfl;rfl;rfl;rfl;rfl;rfl;rfl;rfl;rfl;rfl;rfl;kernel_rfl;rfl;rfl;exact f1;rfl))
    (apply dP.cons;(apply dW.q true;rfl;rfl;rfl;rfl;exact True.intro))
    (apply dP.cons;(apply dW.entryStore;rfl;rfl;rfl;rfl;rfl;rfl;rfl;(simp only[List.length_append,List.length_cons,List.length_nil,lS];omega);rfl))
    exact dP.nil _ _
    exact Nat.le_refl _
    simp only[List.set_cons_succ,List.set_cons_zero,lS,pM]
    repeat (first|refine aa.iR ?_)
    apply aa.CZ
    exact fun _ _ _ h=>h
    rfl
    rfl
    decide +kernel
    (repeat (first|exact bJ.nil _|(apply bJ.cons true;rfl;rfl;rfl;rfl;rfl;first|exact True.intro|omega)))
    (apply StepB.buildSlice;rfl;rfl;rfl;rfl;rfl;rfl;rfl;rfl;rfl;rfl;rfl)
    exact Nat.le_refl _
    repeat' (first|(apply aa.append;(iterate 11 rfl);(first|rfl|(simp only[List.length_append,List.length_map,List.length_cons,List.length_nil];omega));(first|(simp only[List.length_append,List.length_map,List.length_cons,List.length_nil];omega)|(simp only[dm,List.length_cons,List.length_nil];omega));simp only[List.set_cons_zero,List.set_cons_succ])|((first|apply aa.q true|apply aa.qq true|apply aa.sq true);rfl;rfl;rfl;rfl;first|exact True.intro|omega|(simp only[tn,Int.reduceToNat];omega)|(simp only[dm,List.length_cons,List.length_nil];omega))|intro _|refine aa.aR ?_)
    all_goals refine⟨rfl,?_⟩
    have s1:gQ (bG t.sym++[(.str row, .int .i64 0)]) ((bG t.sym).length:Int).toNat (.int .i64 (aT t.codes).length)=bG (eX t row sy).sym:=by
     rw[gb _ _ _ _ _ rfl];unfold eX;rw[nD,dm]
    have s2:gQ (dJ t.rws++[(.int .i64 sy, .int .i64 0)]) ((dJ t.rws).length:Int).toNat (.int .i64 (aT t.codes).length)=dJ (eX t row sy).rws:=by
     rw[gb _ _ _ _ _ rfl];unfold eX;rw[nO,dm]
    have s3:aT (eX t row sy).codes=aT t.codes++[kr (row,sy)]:=by unfold eX;exact rP _ _
    rw[←s1,←s2,s3]
    rfl
 |some jv =>
  obtain⟨j,v⟩:=jv
  rw[h4]at f2
  have h5:=eP h4
  rw[h5]at h3
  refine ACalls.en Tryz.func314 Tryz.ntmps314 ?_
  repeat (first|refine aa.bN true ?_|refine aa.aV (hr) ?_|((first|apply aa.dI|apply aa.dH);(iterate 13 rfl);kernel_rfl;exact f1;rfl)|((first|apply aa.dI|apply aa.dH);(iterate 13 rfl);kernel_rfl;exact f2;rfl)|refine aa.iR ?_)
  refine aa.weak (env':=[(41,I 0),(40,I row.length),(3, .ptr 5 0),(0, .ptr 0 0)]) ⟨rfl,rfl,rfl,rfl,trivial⟩ ?_
  refine aa.loop (fun m env H=>∃k:Nat,m=row.length - k∧k≤row.length∧(∀n,n<k→cB (row.take (n+1)) t.sym 0=none)∧env=[(41,I (k:Int)),(40,I row.length),(3, .ptr 5 0),(0, .ptr 0 0)]∧H=[.cells [.own 2 (aT t.codes) 4, .mp 1, .mp 2, .mp 3,I t.lng], .map (bG t.sym), .map (dJ t.rws), .map (bG t.beg), .front 321 2 (aT t.codes).length, .cells [S row,I sy]]) row.length
   ⟨0,rfl,by omega,fun n hn=>absurd hn (by omega),rfl,rfl⟩ ?_
  rintro m env H ⟨k,rfl,hk,hw,rfl,rfl⟩
  have e1:=tk1 row k
  have f3:=cV (row.take ((k:Int)+1).toNat) t.sym 0
  rw[e1]at f3
  rcases Nat.lt_or_ge k row.length with hlt|hge
  ·have h6:=hw4 k hlt
   rw[h6]at f3
   rw[←e1]at f3
   repeat' (first|refine aa.bN true ?_|((first|apply aa.dI|apply aa.dH);(iterate 13 rfl);kernel_rfl;exact f3;rfl)|intro _|refine aa.aR ?_)
   exact aa.round [(41,I ((k+1:Nat):Int)),(40,I row.length),(3, .ptr 5 0),(0, .ptr 0 0)] (row.length - (k+1)) (by omega) ⟨rfl,rfl,rfl,rfl,trivial⟩ ⟨k+1,rfl,hlt,fun n _=>hw4 n (by omega),rfl,rfl⟩
  ·obtain rfl:k=row.length:=by omega
   repeat' (first|intro _|refine aa.aR ?_)
   refine aa.weak (env':=[(62,I 0),(61,I row.length),(3, .ptr 5 0),(0, .ptr 0 0)]) ⟨rfl,rfl,rfl,rfl,trivial⟩ ?_
   refine aa.loop (fun m env H=>∃k:Nat,m=row.length - k∧k≤row.length∧env=[(62,I (k:Int)),(61,I row.length),(3, .ptr 5 0),(0, .ptr 0 0)]∧H=[.cells [.own 2 (aT t.codes) 4, .mp 1, .mp 2, .mp 3,I t.lng], .map (bG t.sym), .map (dJ t.rws), .map (bG (bU row k t.beg)), .front 321 2 (aT t.codes).length, .cells [S row,I sy]]) row.length
    ⟨0,rfl,by omega,rfl,by rw[sW]⟩ ?_
   rintro m env H ⟨k,rfl,hk,rfl,rfl⟩
   have e1:=tk1 row k
   have f4:=cV (row.take ((k:Int)+1).toNat) (bU row k t.beg) 0
   rw[e1]at f4
   have hbd:=kw row t.beg 1000000 hN k (row.take (k+1))
   rcases Nat.lt_or_ge k row.length with hlt|hge
   ·cases h7:cB (row.take (k+1)) (bU row k t.beg) 0 with
    |none =>
     rw[h7]at f4
     rw[←e1]at f4
     have hput:pJ (bG (bU row k t.beg)) (.str (row.take ((k:Int)+1).toNat)) (.int .i64 (0+1)) none=bG (bU row (k+1) t.beg):=by
      have:=jp (bU row k t.beg) (row.take (k+1)) (0+1)
      rw[h7]at this
      rw[e1,gp,li h7]
      exact this
     repeat' (first|refine aa.bN true ?_|((first|apply aa.dI|apply aa.dH);(iterate 13 rfl);kernel_rfl;exact f4;rfl)|(apply aa.mapUpdate;(iterate 11 rfl);exact f4;simp only[List.set_cons_succ,List.set_cons_zero])|intro _|refine aa.aR ?_)
     exact aa.round [(62,I ((k+1:Nat):Int)),(61,I row.length),(3, .ptr 5 0),(0, .ptr 0 0)] (row.length - (k+1)) (by omega) ⟨rfl,rfl,rfl,rfl,trivial⟩ ⟨k+1,rfl,hlt,rfl,congrArg (fun x=>[au.cells [.own 2 (aT t.codes) 4, .mp 1, .mp 2, .mp 3,I t.lng],au.map (bG t.sym),au.map (dJ t.rws),au.map (x),au.front 321 2 (aT t.codes).length,au.cells [S row,I sy]]) hput⟩
    |some jv =>
     obtain⟨j,v⟩:=jv
     rw[eP h7]at hbd
     rw[h7]at f4
     rw[←e1]at f4
     have hput:pJ (bG (bU row k t.beg)) (.str (row.take ((k:Int)+1).toNat)) (.int .i64 (v+1)) (some (j, .int .i64 v))=bG (bU row (k+1) t.beg):=by
      have:=jp (bU row k t.beg) (row.take (k+1)) (v+1)
      rw[h7]at this
      rw[e1,gp,eP h7]
      exact this
     repeat' (first|refine aa.bN true ?_|((first|apply aa.dI|apply aa.dH);(iterate 13 rfl);kernel_rfl;exact f4;rfl)|(apply aa.mapUpdate;(iterate 11 rfl);exact f4;simp only[List.set_cons_succ,List.set_cons_zero])|intro _|refine aa.aR ?_)
     exact aa.round [(62,I ((k+1:Nat):Int)),(61,I row.length),(3, .ptr 5 0),(0, .ptr 0 0)] (row.length - (k+1)) (by omega) ⟨rfl,rfl,rfl,rfl,trivial⟩ ⟨k+1,rfl,hlt,rfl,congrArg (fun x=>[au.cells [.own 2 (aT t.codes) 4, .mp 1, .mp 2, .mp 3,I t.lng],au.map (bG t.sym),au.map (dJ t.rws),au.map (x),au.front 321 2 (aT t.codes).length,au.cells [S row,I sy]]) hput⟩
   ·obtain rfl:k=row.length:=by omega
    repeat (first|refine aa.iR ?_)
    refine aa.out rfl ⟨_,rfl,?_⟩
    repeat (first|refine aa.iR ?_)
    apply aa.CY [1,2]
    exact fun _ _ _ h=>h
    rfl
    rfl
    decide +kernel
    rfl
    (repeat (first|exact bJ.nil _|(apply bJ.cons true;rfl;rfl;rfl;rfl;rfl;first|exact True.intro|omega)))
    (apply dP.cons;(apply dW.mapEntry;rfl;rfl;rfl;rfl;rfl;rfl;rfl;rfl;rfl;rfl;rfl;kernel_rfl;rfl;rfl;exact f5;rfl))
    (apply dP.cons;(apply dW.q true;rfl;rfl;rfl;rfl;exact True.intro))
    (apply dP.cons;(apply dW.entryStore;rfl;rfl;rfl;rfl;rfl;rfl;rfl;(simp only[List.length_append,List.length_cons,List.length_nil,lS];omega);rfl))
    (apply dP.cons;(apply dW.mapEntry;rfl;rfl;rfl;rfl;rfl;rfl;rfl;rfl;rfl;rfl;rfl;kernel_rfl;rfl;rfl;exact f1;rfl))
    (apply dP.cons;(apply dW.q true;rfl;rfl;rfl;rfl;exact True.intro))
    (apply dP.cons;(apply dW.entryStore;rfl;rfl;rfl;rfl;rfl;rfl;rfl;(simp only[List.length_append,List.length_cons,List.length_nil,lS];omega);rfl))
    exact dP.nil _ _
    exact Nat.le_refl _
    simp only[List.set_cons_succ,List.set_cons_zero,lS,pM]
    repeat (first|refine aa.iR ?_)
    apply aa.CZ
    exact fun _ _ _ h=>h
    rfl
    rfl
    decide +kernel
    (repeat (first|exact bJ.nil _|(apply bJ.cons true;rfl;rfl;rfl;rfl;rfl;first|exact True.intro|omega)))
    (apply StepB.buildSlice;rfl;rfl;rfl;rfl;rfl;rfl;rfl;rfl;rfl;rfl;rfl)
    exact Nat.le_refl _
    repeat' (first|(apply aa.append;(iterate 11 rfl);(first|rfl|(simp only[List.length_append,List.length_map,List.length_cons,List.length_nil];omega));(first|(simp only[List.length_append,List.length_map,List.length_cons,List.length_nil];omega)|(simp only[dm,List.length_cons,List.length_nil];omega));simp only[List.set_cons_zero,List.set_cons_succ])|((first|apply aa.q true|apply aa.qq true|apply aa.sq true);rfl;rfl;rfl;rfl;first|exact True.intro|omega|(simp only[tn,Int.reduceToNat];omega)|(simp only[dm,List.length_cons,List.length_nil];omega))|intro _|refine aa.aR ?_)
    all_goals refine⟨rfl,?_⟩
    have s1:gQ (bG t.sym++[(.str row, .int .i64 0)]) ((bG t.sym).length:Int).toNat (.int .i64 (aT t.codes).length)=bG (eX t row sy).sym:=by
     rw[gb _ _ _ _ _ rfl];unfold eX;rw[nD,dm]
    have s2:gQ (dJ t.rws++[(.int .i64 sy, .int .i64 0)]) ((dJ t.rws).length:Int).toNat (.int .i64 (aT t.codes).length)=dJ (eX t row sy).rws:=by
     rw[gb _ _ _ _ _ rfl];unfold eX;rw[nO,dm]
    have s3:aT (eX t row sy).codes=aT t.codes++[kr (row,sy)]:=by unfold eX;exact rP _ _
    rw[←s1,←s2,s3]
    rfl
end Px
end Go.Proofs.YtbpednchkndocaaGreatDoor.Av
