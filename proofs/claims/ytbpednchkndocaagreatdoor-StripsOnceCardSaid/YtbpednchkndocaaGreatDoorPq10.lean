/- Cells that are the same: overspillref21.Same. The chapter's examples of cells that are read. Cells that are the same: cellin.Same. -/
import Derived.Test.YtbpednchkndocaaGreatDoorSx1
import Derived.Test.YtbpednchkndocaaGreatDoorPq6
set_option linter.unusedVariables false
set_option linter.unusedSimpArgs false
set_option maxRecDepth 100000
set_option maxHeartbeats 64000000
namespace Go.Proofs.YtbpednchkndocaaGreatDoor.Av
namespace Cs
open Go Bt Tc Co
attribute [local irreducible] aa ACalls aW aK bP aT
variable {gl:List (Nat×List D)}
def fE(a b:Cel):Bool:=decide (a.stuff=b.stuff)&&((a.skip==b.skip)&&(decide (a.kind=b.kind)&&(decide (a.step=b.step)&&(decide ([a.mx,a.my]=[b.mx,b.my])&&(decide ([a.d0,a.d1,a.d2,a.d3,a.d4,a.d5]=[b.d0,b.d1,b.d2,b.d3,b.d4,b.d5]) &&
 (kQ a.e0 b.e0&&(kQ a.e1 b.e1&&(kQ a.e2 b.e2&&(kQ a.e3 b.e3&&(kQ a.e4 b.e4&&kQ a.e5 b.e5))))))))))
theorem DW(c:Cel):fE c c=true:=by simp[fE,zn]
def uU(c:Cel):Prop:=c.e0.length≤1000000000000∧c.e1.length≤1000000000000∧c.e2.length≤1000000000000∧c.e3.length≤1000000000000∧c.e4.length≤1000000000000∧c.e5.length≤1000000000000
attribute [local irreducible] Tc.bS kQ
end Cs
namespace Cs
open Go Bt Tc Co Bl Ci
attribute [local irreducible] aa ACalls aW aK bP aT
attribute [local irreducible] Tc.bS
end Cs
namespace Cs
open Go Bt Tc Co
attribute [local irreducible] aa ACalls aW aK bP aT
variable {gl:List (Nat×List D)}
attribute [local irreducible] Tc.bS kQ
theorem NV (a b : Cel) (ha : uU a) (hb : uU b) : ACalls (cxg gl) 160 [.d (kU a), .d (kU b)] [] (fun r H => r = B (fE a b) ∧ H = []) := by
 obtain⟨st,sk,ki,sp,mx,my,d0,d1,d2,d3,d4,d5,e0,e1,e2,e3,e4,e5⟩:=a;obtain⟨st',sk',ki',sp',mx',my',d0',d1',d2',d3',d4',d5',e0',e1',e2',e3',e4',e5'⟩:=b;obtain⟨i0,i1,i2,i3,i4,i5⟩:=ha;obtain⟨j0,j1,j2,j3,j4,j5⟩:=hb;simp only at i0 i1 i2 i3 i4 i5 j0 j1 j2 j3 j4 j5;have q0:=nM (gl:=gl) e0 e0' i0 j0;have q1:=nM (gl:=gl) e1 e1' i1 j1;have q2:=nM (gl:=gl) e2 e2' i2 j2;have q3:=nM (gl:=gl) e3 e3' i3 j3;have q4:=nM (gl:=gl) e4 e4' i4 j4;have q5:=nM (gl:=gl) e5 e5' i5 j5;by_cases h0:st=st'
 ·subst h0;by_cases h1:sk=sk'
  ·subst h1;by_cases h2:ki=ki'
   ·subst h2;by_cases h3:sp=sp'
    ·subst h3;by_cases h4:[mx,my]=[mx',my']
     ·simp only[List.cons.injEq,and_true]at h4;obtain⟨rfl,rfl⟩:=h4;by_cases h5:[d0,d1,d2,d3,d4,d5]=[d0',d1',d2',d3',d4',d5']
      ·simp only[List.cons.injEq,and_true]at h5;obtain⟨rfl,rfl,rfl,rfl,rfl,rfl⟩:=h5;cases x0:kQ e0 e0' with
       |false =>
        rw[x0]at q0;rw[show fE _ _=false by simp[fE,x0]];refine ACalls.en Tryz.func160 Tryz.ntmps160 ?_;repeat' (first|refine aa.aF ?_|refine aa.bh true ?_|refine aa.bC ?_|refine aa.ah ?_|refine aa.ae ?_|refine aa.aM ?_|refine aa.au ?_|refine aa.cf ?_|refine aa.bg ?_|refine aa.aC ?_|refine aa.mr ?_|intro _|refine aa.aA ?_)
        refine aa.weak (env':=[(47,I 0),(5,B true),(4,B false),(3, .ptr 1 0),(2, .ptr 0 0)]) ⟨rfl,by first|rfl|exact congrArg B (by simp[x0]),rfl,rfl,rfl,trivial⟩ ?_;repeat' (first|refine aa.aF ?_|(apply aa.fw [0,1,2,3,4,5,6,7,8,9,10,11,12] 13 13;rfl)|refine aW.dh ?_|refine aW.cg ?_|refine aW.fV ?_|(apply aW.go)|refine aK.cL ?_|refine aK.cg ?_|refine aK.bO (q0) ?_|refine aK.jk ?_|(apply aK.iC;rfl;kernel_rfl)|refine bP.dh ?_|(exact aa.fg)|(refine aa.bv ?_;rfl)|refine aa.bh true ?_|refine aa.bC ?_|refine aa.ah ?_|refine aa.ae ?_|refine aa.aM ?_|refine aa.au ?_|refine aa.cf ?_|refine aa.bg ?_|refine aa.aC ?_|apply aa.di|apply aa.lpU|intro _|refine aa.aA ?_)
        all_goals first|exact⟨rfl,rfl⟩|omega|(exfalso;simp_all;done)
       | true =>
        rw[x0]at q0;cases x1:kQ e1 e1' with
        |false =>
         rw[x1]at q1;rw[show fE _ _=false by simp[fE,x0,x1]];refine ACalls.en Tryz.func160 Tryz.ntmps160 ?_;repeat' (first|refine aa.aF ?_|refine aa.bh true ?_|refine aa.bC ?_|refine aa.ah ?_|refine aa.ae ?_|refine aa.aM ?_|refine aa.au ?_|refine aa.cf ?_|refine aa.bg ?_|refine aa.aC ?_|refine aa.mr ?_|intro _|refine aa.aA ?_)
         refine aa.weak (env':=[(47,I 0),(5,B true),(4,B false),(3, .ptr 1 0),(2, .ptr 0 0)]) ⟨rfl,by first|rfl|exact congrArg B (by simp[x0,x1]),rfl,rfl,rfl,trivial⟩ ?_;repeat' (first|refine aa.aF ?_|(apply aa.fw [0,1,2,3,4,5,6,7,8,9,10,11,12] 13 13;rfl)|refine aW.dh ?_|refine aW.cg ?_|refine aW.fV ?_|(apply aW.go)|refine aK.cL ?_|refine aK.cg ?_|refine aK.bO (q0) ?_|refine aK.bO (q1) ?_|refine aK.jk ?_|(apply aK.iC;rfl;kernel_rfl)|refine bP.dh ?_|(exact aa.fg)|(refine aa.bv ?_;rfl)|refine aa.bh true ?_|refine aa.bC ?_|refine aa.ah ?_|refine aa.ae ?_|refine aa.aM ?_|refine aa.au ?_|refine aa.cf ?_|refine aa.bg ?_|refine aa.aC ?_|apply aa.di|apply aa.lpU|intro _|refine aa.aA ?_)
         all_goals first|exact⟨rfl,rfl⟩|omega|(exfalso;simp_all;done)
        | true =>
         rw[x1]at q1;cases x2:kQ e2 e2' with
         |false =>
          rw[x2]at q2;rw[show fE _ _=false by simp[fE,x0,x1,x2]];refine ACalls.en Tryz.func160 Tryz.ntmps160 ?_;repeat' (first|refine aa.aF ?_|refine aa.bh true ?_|refine aa.bC ?_|refine aa.ah ?_|refine aa.ae ?_|refine aa.aM ?_|refine aa.au ?_|refine aa.cf ?_|refine aa.bg ?_|refine aa.aC ?_|refine aa.mr ?_|intro _|refine aa.aA ?_)
          refine aa.weak (env':=[(47,I 0),(5,B true),(4,B false),(3, .ptr 1 0),(2, .ptr 0 0)]) ⟨rfl,by first|rfl|exact congrArg B (by simp[x0,x1,x2]),rfl,rfl,rfl,trivial⟩ ?_;repeat' (first|refine aa.aF ?_|(apply aa.fw [0,1,2,3,4,5,6,7,8,9,10,11,12] 13 13;rfl)|refine aW.dh ?_|refine aW.cg ?_|refine aW.fV ?_|(apply aW.go)|refine aK.cL ?_|refine aK.cg ?_|refine aK.bO (q0) ?_|refine aK.bO (q1) ?_|refine aK.bO (q2) ?_|refine aK.jk ?_|(apply aK.iC;rfl;kernel_rfl)|refine bP.dh ?_|(exact aa.fg)|(refine aa.bv ?_;rfl)|refine aa.bh true ?_|refine aa.bC ?_|refine aa.ah ?_|refine aa.ae ?_|refine aa.aM ?_|refine aa.au ?_|refine aa.cf ?_|refine aa.bg ?_|refine aa.aC ?_|apply aa.di|apply aa.lpU|intro _|refine aa.aA ?_)
          all_goals first|exact⟨rfl,rfl⟩|omega|(exfalso;simp_all;done)
         | true =>
          rw[x2]at q2;cases x3:kQ e3 e3' with
          |false =>
           rw[x3]at q3;rw[show fE _ _=false by simp[fE,x0,x1,x2,x3]];refine ACalls.en Tryz.func160 Tryz.ntmps160 ?_;repeat' (first|refine aa.aF ?_|refine aa.bh true ?_|refine aa.bC ?_|refine aa.ah ?_|refine aa.ae ?_|refine aa.aM ?_|refine aa.au ?_|refine aa.cf ?_|refine aa.bg ?_|refine aa.aC ?_|refine aa.mr ?_|intro _|refine aa.aA ?_)
           refine aa.weak (env':=[(47,I 0),(5,B true),(4,B false),(3, .ptr 1 0),(2, .ptr 0 0)]) ⟨rfl,by first|rfl|exact congrArg B (by simp[x0,x1,x2,x3]),rfl,rfl,rfl,trivial⟩ ?_;repeat' (first|refine aa.aF ?_|(apply aa.fw [0,1,2,3,4,5,6,7,8,9,10,11,12] 13 13;rfl)|refine aW.dh ?_|refine aW.cg ?_|refine aW.fV ?_|(apply aW.go)|refine aK.cL ?_|refine aK.cg ?_|refine aK.bO (q0) ?_|refine aK.bO (q1) ?_|refine aK.bO (q2) ?_|refine aK.bO (q3) ?_|refine aK.jk ?_|(apply aK.iC;rfl;kernel_rfl)|refine bP.dh ?_|(exact aa.fg)|(refine aa.bv ?_;rfl)|refine aa.bh true ?_|refine aa.bC ?_|refine aa.ah ?_|refine aa.ae ?_|refine aa.aM ?_|refine aa.au ?_|refine aa.cf ?_|refine aa.bg ?_|refine aa.aC ?_|apply aa.di|apply aa.lpU|intro _|refine aa.aA ?_)
           all_goals first|exact⟨rfl,rfl⟩|omega|(exfalso;simp_all;done)
          | true =>
           rw[x3]at q3;cases x4:kQ e4 e4' with
           |false =>
            rw[x4]at q4;rw[show fE _ _=false by simp[fE,x0,x1,x2,x3,x4]];refine ACalls.en Tryz.func160 Tryz.ntmps160 ?_;repeat' (first|refine aa.aF ?_|refine aa.bh true ?_|refine aa.bC ?_|refine aa.ah ?_|refine aa.ae ?_|refine aa.aM ?_|refine aa.au ?_|refine aa.cf ?_|refine aa.bg ?_|refine aa.aC ?_|refine aa.mr ?_|intro _|refine aa.aA ?_)
            refine aa.weak (env':=[(47,I 0),(5,B true),(4,B false),(3, .ptr 1 0),(2, .ptr 0 0)]) ⟨rfl,by first|rfl|exact congrArg B (by simp[x0,x1,x2,x3,x4]),rfl,rfl,rfl,trivial⟩ ?_;repeat' (first|refine aa.aF ?_|(apply aa.fw [0,1,2,3,4,5,6,7,8,9,10,11,12] 13 13;rfl)|refine aW.dh ?_|refine aW.cg ?_|refine aW.fV ?_|(apply aW.go)|refine aK.cL ?_|refine aK.cg ?_|refine aK.bO (q0) ?_|refine aK.bO (q1) ?_|refine aK.bO (q2) ?_|refine aK.bO (q3) ?_|refine aK.bO (q4) ?_|refine aK.jk ?_|(apply aK.iC;rfl;kernel_rfl)|refine bP.dh ?_|(exact aa.fg)|(refine aa.bv ?_;rfl)|refine aa.bh true ?_|refine aa.bC ?_|refine aa.ah ?_|refine aa.ae ?_|refine aa.aM ?_|refine aa.au ?_|refine aa.cf ?_|refine aa.bg ?_|refine aa.aC ?_|apply aa.di|apply aa.lpU|intro _|refine aa.aA ?_)
            all_goals first|exact⟨rfl,rfl⟩|omega|(exfalso;simp_all;done)
           | true =>
            rw[x4]at q4;cases x5:kQ e5 e5' with
            |false =>
             rw[x5]at q5;rw[show fE _ _=false by simp[fE,x0,x1,x2,x3,x4,x5]];refine ACalls.en Tryz.func160 Tryz.ntmps160 ?_;repeat' (first|refine aa.aF ?_|refine aa.bh true ?_|refine aa.bC ?_|refine aa.ah ?_|refine aa.ae ?_|refine aa.aM ?_|refine aa.au ?_|refine aa.cf ?_|refine aa.bg ?_|refine aa.aC ?_|refine aa.mr ?_|intro _|refine aa.aA ?_)
             refine aa.weak (env':=[(47,I 0),(5,B true),(4,B false),(3, .ptr 1 0),(2, .ptr 0 0)]) ⟨rfl,by first|rfl|exact congrArg B (by simp[x0,x1,x2,x3,x4,x5]),rfl,rfl,rfl,trivial⟩ ?_;repeat' (first|refine aa.aF ?_|(apply aa.fw [0,1,2,3,4,5,6,7,8,9,10,11,12] 13 13;rfl)|refine aW.dh ?_|refine aW.cg ?_|refine aW.fV ?_|(apply aW.go)|refine aK.cL ?_|refine aK.cg ?_|refine aK.bO (q0) ?_|refine aK.bO (q1) ?_|refine aK.bO (q2) ?_|refine aK.bO (q3) ?_|refine aK.bO (q4) ?_|refine aK.bO (q5) ?_|refine aK.jk ?_|(apply aK.iC;rfl;kernel_rfl)|refine bP.dh ?_|(exact aa.fg)|(refine aa.bv ?_;rfl)|refine aa.bh true ?_|refine aa.bC ?_|refine aa.ah ?_|refine aa.ae ?_|refine aa.aM ?_|refine aa.au ?_|refine aa.cf ?_|refine aa.bg ?_|refine aa.aC ?_|apply aa.di|apply aa.lpU|intro _|refine aa.aA ?_)
             all_goals first|exact⟨rfl,rfl⟩|omega|(exfalso;simp_all;done)
            |true =>
             rw[x5]at q5;rw[show fE _ _=true by simp[fE,x0,x1,x2,x3,x4,x5]];refine ACalls.en Tryz.func160 Tryz.ntmps160 ?_;repeat' (first|refine aa.aF ?_|refine aa.bh true ?_|refine aa.bC ?_|refine aa.ah ?_|refine aa.ae ?_|refine aa.aM ?_|refine aa.au ?_|refine aa.cf ?_|refine aa.bg ?_|refine aa.aC ?_|refine aa.mr ?_|intro _|refine aa.aA ?_)
             refine aa.weak (env':=[(47,I 0),(5,B true),(4,B false),(3, .ptr 1 0),(2, .ptr 0 0)]) ⟨rfl,by first|rfl|exact congrArg B (by simp[x0,x1,x2,x3,x4,x5]),rfl,rfl,rfl,trivial⟩ ?_;repeat' (first|refine aa.aF ?_|(apply aa.fw [0,1,2,3,4,5,6,7,8,9,10,11,12] 13 13;rfl)|refine aW.dh ?_|refine aW.cg ?_|refine aW.fV ?_|(apply aW.go)|refine aK.cL ?_|refine aK.cg ?_|refine aK.bO (q0) ?_|refine aK.bO (q1) ?_|refine aK.bO (q2) ?_|refine aK.bO (q3) ?_|refine aK.bO (q4) ?_|refine aK.bO (q5) ?_|refine aK.jk ?_|(apply aK.iC;rfl;kernel_rfl)|refine bP.dh ?_|(exact aa.fg)|(refine aa.bv ?_;rfl)|refine aa.bh true ?_|refine aa.bC ?_|refine aa.ah ?_|refine aa.ae ?_|refine aa.aM ?_|refine aa.au ?_|refine aa.cf ?_|refine aa.bg ?_|refine aa.aC ?_|apply aa.di|apply aa.lpU|intro _|refine aa.aA ?_)
             all_goals first|exact⟨rfl,rfl⟩|omega|(exfalso;simp_all;done)
      ·rw[show fE _ _=false by simp[fE,h5]];refine ACalls.en Tryz.func160 Tryz.ntmps160 ?_;repeat' (first|refine aa.aF ?_|refine aa.bh true ?_|refine aa.bC ?_|refine aa.ah ?_|refine aa.ae ?_|refine aa.aM ?_|refine aa.au ?_|refine aa.cf ?_|refine aa.bg ?_|refine aa.aC ?_|refine aa.mr ?_|intro _|refine aa.aA ?_)
       refine aa.weak (env':=[(47,I 0),(5,B false),(4,B false),(3, .ptr 1 0),(2, .ptr 0 0)]) ⟨rfl,by first|rfl|exact congrArg B (by simp[h5]),rfl,rfl,rfl,trivial⟩ ?_;repeat' (first|refine aa.aF ?_|(apply aa.fw [0,1,2,3,4,5,6,7,8,9,10,11,12] 13 13;rfl)|refine aW.dh ?_|refine aW.cg ?_|refine aW.fV ?_|(apply aW.go)|refine aK.cL ?_|refine aK.cg ?_|refine aK.bO (q0) ?_|refine aK.jk ?_|(apply aK.iC;rfl;kernel_rfl)|refine bP.dh ?_|(exact aa.fg)|(refine aa.bv ?_;rfl)|refine aa.bh true ?_|refine aa.bC ?_|refine aa.ah ?_|refine aa.ae ?_|refine aa.aM ?_|refine aa.au ?_|refine aa.cf ?_|refine aa.bg ?_|refine aa.aC ?_|apply aa.di|apply aa.lpU|intro _|refine aa.aA ?_)
       all_goals first|exact⟨rfl,rfl⟩|omega|(exfalso;simp_all;done)
     ·rw[show fE _ _=false by simp[fE,h4]];refine ACalls.en Tryz.func160 Tryz.ntmps160 ?_;repeat' (first|refine aa.aF ?_|refine aa.bh true ?_|refine aa.bC ?_|refine aa.ah ?_|refine aa.ae ?_|refine aa.aM ?_|refine aa.au ?_|refine aa.cf ?_|refine aa.bg ?_|refine aa.aC ?_|refine aa.mr ?_|intro _|refine aa.aA ?_)
      refine aa.weak (env':=[(47,I 0),(5,B false),(4,B false),(3, .ptr 1 0),(2, .ptr 0 0)]) ⟨rfl,by first|rfl|exact congrArg B (by simp[h4]),rfl,rfl,rfl,trivial⟩ ?_;repeat' (first|refine aa.aF ?_|(apply aa.fw [0,1,2,3,4,5,6,7,8,9,10,11,12] 13 13;rfl)|refine aW.dh ?_|refine aW.cg ?_|refine aW.fV ?_|(apply aW.go)|refine aK.cL ?_|refine aK.cg ?_|refine aK.bO (q0) ?_|refine aK.jk ?_|(apply aK.iC;rfl;kernel_rfl)|refine bP.dh ?_|(exact aa.fg)|(refine aa.bv ?_;rfl)|refine aa.bh true ?_|refine aa.bC ?_|refine aa.ah ?_|refine aa.ae ?_|refine aa.aM ?_|refine aa.au ?_|refine aa.cf ?_|refine aa.bg ?_|refine aa.aC ?_|apply aa.di|apply aa.lpU|intro _|refine aa.aA ?_)
      all_goals first|exact⟨rfl,rfl⟩|omega|(exfalso;simp_all;done)
    ·rw[show fE _ _=false by simp[fE,h3]];refine ACalls.en Tryz.func160 Tryz.ntmps160 ?_;repeat' (first|refine aa.aF ?_|refine aa.bh true ?_|refine aa.bC ?_|refine aa.ah ?_|refine aa.ae ?_|refine aa.aM ?_|refine aa.au ?_|refine aa.cf ?_|refine aa.bg ?_|refine aa.aC ?_|refine aa.mr ?_|intro _|refine aa.aA ?_)
     refine aa.weak (env':=[(47,I 0),(5,B false),(4,B false),(3, .ptr 1 0),(2, .ptr 0 0)]) ⟨rfl,by first|rfl|exact congrArg B (by simp[h3]),rfl,rfl,rfl,trivial⟩ ?_;repeat' (first|refine aa.aF ?_|(apply aa.fw [0,1,2,3,4,5,6,7,8,9,10,11,12] 13 13;rfl)|refine aW.dh ?_|refine aW.cg ?_|refine aW.fV ?_|(apply aW.go)|refine aK.cL ?_|refine aK.cg ?_|refine aK.bO (q0) ?_|refine aK.jk ?_|(apply aK.iC;rfl;kernel_rfl)|refine bP.dh ?_|(exact aa.fg)|(refine aa.bv ?_;rfl)|refine aa.bh true ?_|refine aa.bC ?_|refine aa.ah ?_|refine aa.ae ?_|refine aa.aM ?_|refine aa.au ?_|refine aa.cf ?_|refine aa.bg ?_|refine aa.aC ?_|apply aa.di|apply aa.lpU|intro _|refine aa.aA ?_)
     all_goals first|exact⟨rfl,rfl⟩|omega|(exfalso;simp_all;done)
   ·rw[show fE _ _=false by simp[fE,h2]];refine ACalls.en Tryz.func160 Tryz.ntmps160 ?_;repeat' (first|refine aa.aF ?_|refine aa.bh true ?_|refine aa.bC ?_|refine aa.ah ?_|refine aa.ae ?_|refine aa.aM ?_|refine aa.au ?_|refine aa.cf ?_|refine aa.bg ?_|refine aa.aC ?_|refine aa.mr ?_|intro _|refine aa.aA ?_)
    refine aa.weak (env':=[(47,I 0),(5,B false),(4,B false),(3, .ptr 1 0),(2, .ptr 0 0)]) ⟨rfl,by first|rfl|exact congrArg B (by simp[h2]),rfl,rfl,rfl,trivial⟩ ?_;repeat' (first|refine aa.aF ?_|(apply aa.fw [0,1,2,3,4,5,6,7,8,9,10,11,12] 13 13;rfl)|refine aW.dh ?_|refine aW.cg ?_|refine aW.fV ?_|(apply aW.go)|refine aK.cL ?_|refine aK.cg ?_|refine aK.bO (q0) ?_|refine aK.jk ?_|(apply aK.iC;rfl;kernel_rfl)|refine bP.dh ?_|(exact aa.fg)|(refine aa.bv ?_;rfl)|refine aa.bh true ?_|refine aa.bC ?_|refine aa.ah ?_|refine aa.ae ?_|refine aa.aM ?_|refine aa.au ?_|refine aa.cf ?_|refine aa.bg ?_|refine aa.aC ?_|apply aa.di|apply aa.lpU|intro _|refine aa.aA ?_)
    all_goals first|exact⟨rfl,rfl⟩|omega|(exfalso;simp_all;done)
  ·rw[show fE _ _=false by simp[fE,h1]];refine ACalls.en Tryz.func160 Tryz.ntmps160 ?_;repeat' (first|refine aa.aF ?_|refine aa.bh true ?_|refine aa.bC ?_|refine aa.ah ?_|refine aa.ae ?_|refine aa.aM ?_|refine aa.au ?_|refine aa.cf ?_|refine aa.bg ?_|refine aa.aC ?_|refine aa.mr ?_|intro _|refine aa.aA ?_)
   refine aa.weak (env':=[(47,I 0),(5,B false),(4,B false),(3, .ptr 1 0),(2, .ptr 0 0)]) ⟨rfl,by first|rfl|exact congrArg B (by simp[h1]),rfl,rfl,rfl,trivial⟩ ?_;repeat' (first|refine aa.aF ?_|(apply aa.fw [0,1,2,3,4,5,6,7,8,9,10,11,12] 13 13;rfl)|refine aW.dh ?_|refine aW.cg ?_|refine aW.fV ?_|(apply aW.go)|refine aK.cL ?_|refine aK.cg ?_|refine aK.bO (q0) ?_|refine aK.jk ?_|(apply aK.iC;rfl;kernel_rfl)|refine bP.dh ?_|(exact aa.fg)|(refine aa.bv ?_;rfl)|refine aa.bh true ?_|refine aa.bC ?_|refine aa.ah ?_|refine aa.ae ?_|refine aa.aM ?_|refine aa.au ?_|refine aa.cf ?_|refine aa.bg ?_|refine aa.aC ?_|apply aa.di|apply aa.lpU|intro _|refine aa.aA ?_)
   all_goals first|exact⟨rfl,rfl⟩|omega|(exfalso;simp_all;done)
 ·rw[show fE _ _=false by simp[fE,h0]];refine ACalls.en Tryz.func160 Tryz.ntmps160 ?_;repeat' (first|refine aa.aF ?_|refine aa.bh true ?_|refine aa.bC ?_|refine aa.ah ?_|refine aa.ae ?_|refine aa.aM ?_|refine aa.au ?_|refine aa.cf ?_|refine aa.bg ?_|refine aa.aC ?_|refine aa.mr ?_|intro _|refine aa.aA ?_)
  refine aa.weak (env':=[(47,I 0),(5,B false),(4,B false),(3, .ptr 1 0),(2, .ptr 0 0)]) ⟨rfl,by first|rfl|exact congrArg B (by simp[h0]),rfl,rfl,rfl,trivial⟩ ?_;repeat' (first|refine aa.aF ?_|(apply aa.fw [0,1,2,3,4,5,6,7,8,9,10,11,12] 13 13;rfl)|refine aW.dh ?_|refine aW.cg ?_|refine aW.fV ?_|(apply aW.go)|refine aK.cL ?_|refine aK.cg ?_|refine aK.bO (q0) ?_|refine aK.jk ?_|(apply aK.iC;rfl;kernel_rfl)|refine bP.dh ?_|(exact aa.fg)|(refine aa.bv ?_;rfl)|refine aa.bh true ?_|refine aa.bC ?_|refine aa.ah ?_|refine aa.ae ?_|refine aa.aM ?_|refine aa.au ?_|refine aa.cf ?_|refine aa.bg ?_|refine aa.aC ?_|apply aa.di|apply aa.lpU|intro _|refine aa.aA ?_)
  all_goals first|exact⟨rfl,rfl⟩|omega|(exfalso;simp_all;done)
end Cs
end Go.Proofs.YtbpednchkndocaaGreatDoor.Av
