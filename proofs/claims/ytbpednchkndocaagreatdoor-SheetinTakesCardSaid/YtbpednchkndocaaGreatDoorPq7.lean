/- Cells are read: the document's head. Cells are read: the bits of a cell's pattern, as the document asks them. -/
import Derived.Test.YtbpednchkndocaaGreatDoorPq6
import Derived.Test.YtbpednchkndocaaGreatDoorPq8
set_option linter.unusedVariables false
set_option linter.unusedSimpArgs false
set_option maxRecDepth 100000
set_option maxHeartbeats 64000000
namespace Go.Proofs.YtbpednchkndocaaGreatDoor.Av
namespace Ci
open Go Bt Tc Co Bl
attribute [local irreducible] aa ACalls aO aC bB aR
variable {gl:List (Nat×List D)}
abbrev AA (st:Int) (sk:Bool) (ki:Int):D := .agg [In st, .bool sk,In ki,In 0,In 0,In 0,In 0,In 0,In 0,In 0,In 0,In 0, .aY, .aY, .aY, .aY, .aY, .aY]
theorem jH (k:Int):ACalls (cxg gl) 64 [I k] [] (fun r H=>r=B (bf k)∧H=[]):=by
 by_cases h:k=3∨k=4
 ·rw[show bf k=true from decide_eq_true h]
  rcases h with rfl|rfl
  all_goals
   refine ACalls.en Tryz.func64 Tryz.ntmps64 ?_
   repeat' (first|refine aa.aD ?_|refine aa.bh true ?_|refine aa.aj ?_|refine aa.bL ?_|refine aa.bq ?_|refine aa.aB ?_|intro _|refine aa.av ?_)
   all_goals first|exact⟨rfl,rfl⟩
 ·rw[show bf k=false from decide_eq_false h]
  refine ACalls.en Tryz.func64 Tryz.ntmps64 ?_
  repeat' (first|refine aa.aD ?_|refine aa.bh true ?_|refine aa.aj ?_|refine aa.bL ?_|refine aa.bq ?_|refine aa.aB ?_|intro _|refine aa.av ?_)
  all_goals first|exact⟨rfl,rfl⟩|exact⟨congrArg B (by simp only[bF];omega),rfl⟩
def hdT (p:Nat) (h:HdR):AV:=if h.err=0 then .bK [.d (AA h.stuff h.skip h.kind),I h.chr,I ((p+h.used:Nat):Int),I 0] else .bK [.d (AA 0 false 0),I 0,I 0,I h.err]
theorem jQ {p:Nat} {h:HdR} (he:h.err≠0):hdT p h = .bK [.d (AA 0 false 0),I 0,I 0,I h.err]:=if_neg he
theorem yj {p:Nat} {h:HdR} (he:h.err=0):hdT p h = .bK [.d (AA h.stuff h.skip h.kind),I h.chr,I ((p+h.used:Nat):Int),I 0]:=if_pos he
theorem wH (b:Bool) (B:List Int) (h:(mbN b B).2.2.1=0):0≤(mbN b B).1∧(mbN b B).1≤5:=by
 have:=(zZ b B h).1
 omega
attribute [local irreducible] mbN ak dz hdX aS
theorem F7 (b:Bool) (s:List UInt8) (p:Nat) (hs:s.length≤100000) (hp:p≤8*s.length):ACalls (cxg gl) 132 [S (aS s),I p,B b] []
  (fun r H=>r=hdT p (hdX b 65 0 (ak s p))∧H=[]):=by
 have hle:=fun q=>xW b (ak s q)
 have hlen:=cZ s
 generalize hh0:hdX b 65 0 (ak s p)=h at *
 refine ACalls.en Tryz.func132 Tryz.ntmps132 ?_
 repeat (first|refine aa.aD ?_|refine aa.bh true ?_|refine aa.ae ?_|refine aa.af ?_|refine aa.au ?_|refine aa.ai ?_|refine aa.aG ?_|refine aa.aA ?_|refine aa.aL ?_|refine aa.aK ?_)
 refine aa.weak (env':=[(10, .ptr 1 0),(6, .ptr 0 0),(2,B b),(1,I ((p+0:Nat):Int)),(0,S (aS s))]) ⟨rfl,rfl,rfl,rfl,rfl,trivial⟩ ?_
 refine aa.loop (fun m env H=>∃(f:Nat) (n:Int) (q:Nat),m=f∧(0≤n∧n≤64∧64 - n<f)∧p+q≤8*s.length∧hdA q (hdX b f n (ak s (p+q)))=h ∧
  env=[(10, .ptr 1 0),(6, .ptr 0 0),(2,B b),(1,I ((p+q:Nat):Int)),(0,S (aS s))]∧H=[.cells (vR 0 false 0), .cells (vR n false 0)]) 65
  ⟨65,0,0,rfl,by omega,by omega,by rw[Nat.add_zero,hh0];exact Kq h,rfl,rfl⟩ ?_
 rintro m env H ⟨f,n,q,rfl,hn,hq,hh,rfl,rfl⟩
 obtain⟨f,rfl⟩:∃g,m=g+1:=⟨m - 1,by omega⟩
 cases b with
 |false =>
  have mt:=FV (gl:=gl) false s (p+q) hs hq
  have ml:=hle (p+q)
  have mk:=wH false (ak s (p+q))
  rw[bY]at ml
  rw[Ko]at hh
  generalize mbN false (ak s (p+q))=x at *
  obtain⟨k,ch,e,u⟩:=x
  simp only at mt ml mk hh
  unfold hdK at hh
  simp only at hh
  by_cases he:e=0
  ·subst he
   have mk:=mk rfl
   rw[if_neg (by simp)]at hh
   by_cases h5:k=5
   ·subst h5
    rw[if_neg (by simp)]at hh
    by_cases h64:n=64
    ·subst h64
     rw[if_pos rfl]at hh
     subst hh
     rw[jQ (by simp[hdA])]
     repeat' (first|refine aa.aD ?_|refine aa.bh true ?_|refine aa.ah (mt) ?_|refine aa.ae ?_|refine aa.af ?_|refine aa.au ?_|refine aa.ai ?_|refine aa.aG ?_|refine aa.aA ?_|refine aa.aL ?_|refine aa.aK ?_|intro _|refine aa.aP ?_)
     all_goals first|exact⟨rfl,rfl⟩|omega
    ·rw[if_neg h64]at hh
     repeat' (first|refine aa.aD ?_|refine aa.bh true ?_|refine aa.ah (mt) ?_|refine aa.ae ?_|refine aa.af ?_|refine aa.au ?_|refine aa.ai ?_|refine aa.aG ?_|refine aa.aA ?_|refine aa.aL ?_|refine aa.aK ?_|intro _|refine aa.aP ?_)
     all_goals first
      |exact aa.round [(10, .ptr 1 0),(6, .ptr 0 0),(2,B false),(1,I ((p+(q+u):Nat):Int)),(0,S (aS s))] f (by omega) ⟨rfl,rfl,rfl,congrArg I (by omega),rfl,trivial⟩ ⟨f,n+1,q+u,rfl,by omega,by omega,by rw[←hh];simp only[hdA,Nat.zero_add,Nat.add_assoc],rfl,rfl⟩
      |omega
   ·rw[if_pos h5]at hh
    subst hh
    rw[yj (by simp[hdA])]
    simp only[hdA,Nat.zero_add,←Nat.add_assoc]
    repeat' (first|refine aa.aD ?_|refine aa.bh true ?_|refine aa.ah (mt) ?_|refine aa.ae ?_|refine aa.af ?_|refine aa.au ?_|refine aa.ai ?_|refine aa.aG ?_|refine aa.aA ?_|refine aa.aL ?_|refine aa.aK ?_|intro _|refine aa.aP ?_)
    all_goals first|exact⟨rfl,rfl⟩|omega
  ·rw[if_pos he]at hh
   subst hh
   rw[jQ (by simpa[hdA]using he)]
   repeat' (first|refine aa.aD ?_|refine aa.bh true ?_|refine aa.ah (mt) ?_|refine aa.ae ?_|refine aa.af ?_|refine aa.au ?_|refine aa.ai ?_|refine aa.aG ?_|refine aa.aA ?_|refine aa.aL ?_|refine aa.aK ?_|intro _|refine aa.aP ?_)
   all_goals first|exact⟨rfl,rfl⟩|omega
 |true =>
  rcases Nat.lt_or_ge (p+q) (8*s.length)with hlt|hge
  ·have hb01:=jw s ((p+q:Nat):Int)
   have b1:bt (aS s) (((p+q:Nat):Int)+1 - 1).toNat=48+dz s ((p+q:Nat):Int):=by
    rw[show (((p+q:Nat):Int)+1 - 1).toNat=p+q by omega]
    exact yG s (p+q) hlt
   by_cases h1:dz s ((p+q:Nat):Int)=1
   ·rw[Db _ _ _ _ hlt h1]at hh
    subst hh
    rw[yj (by simp[hdA])]
    simp only[hdA,←Nat.add_assoc]
    repeat' (first|refine aa.aD ?_|(apply aa.q true;rfl;rfl;rfl;rfl;first|exact True.intro|omega|(simp only[tn,Int.reduceToNat];omega)|(rw[hlen];omega))|refine aa.ae ?_|refine aa.af ?_|refine aa.au ?_|refine aa.ai ?_|refine aa.aG ?_|refine aa.aA ?_|refine aa.aL ?_|refine aa.aK ?_|intro _|refine aa.aP ?_)
    all_goals first|exact⟨rfl,rfl⟩|omega
   ·rw[Ag _ _ _ _ hlt h1]at hh
    have mt:=FV (gl:=gl) true s (p+q+1) hs (by omega)
    have ml:=hle (p+q+1)
    have mk:=wH true (ak s (p+q+1))
    rw[bY]at ml
    generalize mbN true (ak s (p+q+1))=x at *
    obtain⟨k,ch,e,u⟩:=x
    simp only at mt ml mk hh
    unfold hdK at hh
    simp only at hh
    by_cases he:e=0
    ·subst he
     have mk:=mk rfl
     rw[if_neg (by simp)]at hh
     by_cases h5:k=5
     ·subst h5
      rw[if_neg (by simp)]at hh
      by_cases h64:n=64
      ·subst h64
       rw[if_pos rfl]at hh
       subst hh
       rw[jQ (by simp[hdA])]
       repeat' (first|refine aa.aD ?_|(apply aa.q true;rfl;rfl;rfl;rfl;first|exact True.intro|omega|(simp only[tn,Int.reduceToNat];omega)|(rw[hlen];omega))|refine aa.ah (mt) ?_|refine aa.ae ?_|refine aa.af ?_|refine aa.au ?_|refine aa.ai ?_|refine aa.aG ?_|refine aa.aA ?_|refine aa.aL ?_|refine aa.aK ?_|intro _|refine aa.aP ?_)
       all_goals first|exact⟨rfl,rfl⟩|omega
      ·rw[if_neg h64]at hh
       repeat' (first|refine aa.aD ?_|(apply aa.q true;rfl;rfl;rfl;rfl;first|exact True.intro|omega|(simp only[tn,Int.reduceToNat];omega)|(rw[hlen];omega))|refine aa.ah (mt) ?_|refine aa.ae ?_|refine aa.af ?_|refine aa.au ?_|refine aa.ai ?_|refine aa.aG ?_|refine aa.aA ?_|refine aa.aL ?_|refine aa.aK ?_|intro _|refine aa.aP ?_)
       all_goals first
        |exact aa.round [(10, .ptr 1 0),(6, .ptr 0 0),(2,B true),(1,I ((p+(q+1+u):Nat):Int)),(0,S (aS s))] f (by omega) ⟨rfl,rfl,rfl,congrArg I (by omega),rfl,trivial⟩ ⟨f,n+1,q+1+u,rfl,by omega,by omega,by rw[←hh];simp only[hdA,Nat.add_assoc],rfl,rfl⟩
        |omega
     ·rw[if_pos h5]at hh
      subst hh
      rw[yj (by simp[hdA])]
      simp only[hdA,←Nat.add_assoc]
      repeat' (first|refine aa.aD ?_|(apply aa.q true;rfl;rfl;rfl;rfl;first|exact True.intro|omega|(simp only[tn,Int.reduceToNat];omega)|(rw[hlen];omega))|refine aa.ah (mt) ?_|refine aa.ae ?_|refine aa.af ?_|refine aa.au ?_|refine aa.ai ?_|refine aa.aG ?_|refine aa.aA ?_|refine aa.aL ?_|refine aa.aK ?_|intro _|refine aa.aP ?_)
      all_goals first|exact⟨rfl,rfl⟩|omega
    ·rw[if_pos he]at hh
     subst hh
     rw[jQ (by simpa[hdA]using he)]
     repeat' (first|refine aa.aD ?_|(apply aa.q true;rfl;rfl;rfl;rfl;first|exact True.intro|omega|(simp only[tn,Int.reduceToNat];omega)|(rw[hlen];omega))|refine aa.ah (mt) ?_|refine aa.ae ?_|refine aa.af ?_|refine aa.au ?_|refine aa.ai ?_|refine aa.aG ?_|refine aa.aA ?_|refine aa.aL ?_|refine aa.aK ?_|intro _|refine aa.aP ?_)
     all_goals first|exact⟨rfl,rfl⟩|omega
  ·rw[Dc _ _ _ _ hge]at hh
   subst hh
   rw[jQ (by simp[hdA])]
   repeat' (first|refine aa.aD ?_|(apply aa.q true;rfl;rfl;rfl;rfl;first|exact True.intro|omega|(simp only[tn,Int.reduceToNat];omega)|(rw[hlen];omega))|refine aa.ae ?_|refine aa.af ?_|refine aa.au ?_|refine aa.ai ?_|refine aa.aG ?_|refine aa.aA ?_|refine aa.aL ?_|refine aa.aK ?_|intro _|refine aa.aP ?_)
   all_goals first|exact⟨rfl,rfl⟩|omega
end Ci
namespace Ci
open Go Bt Tc Co Bl
theorem Dx (v:Int) (i:Nat) (y:Int) (hy:(2:Int)^(5 - i)=y):bv v i=decide (v / y%2=1):=by
 unfold bv
 rw[hy]
theorem xP (L:List (Int×List Ev)) {n:Nat} (h:L.length=n):∃f:Nat→Int×List Ev,L=(List.range n).map f:=by
 subst h
 refine⟨fun i=>L.getD i (0,[]),?_⟩
 apply List.ext_getElem?
 intro i
 rw[List.getElem?_map]
 by_cases hi:i<L.length
 ·rw[List.getElem?_range hi,List.getElem?_eq_getElem hi]
  simp[List.getD,hi]
 ·rw[List.getElem?_eq_none (by omega),List.getElem?_eq_none (by simp;omega)];rfl
theorem CI (i:Nat) (h:i<6):(2:Int)^(5 - i)=32 / 2^i:=by
 rcases (show i=0∨i=1∨i=2∨i=3∨i=4∨i=5 by omega)with rfl|rfl|rfl|rfl|rfl|rfl<;>rfl
end Ci
end Go.Proofs.YtbpednchkndocaaGreatDoor.Av
