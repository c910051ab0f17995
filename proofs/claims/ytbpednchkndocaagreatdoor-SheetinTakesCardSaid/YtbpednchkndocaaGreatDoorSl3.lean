/- The law SheetinTakes. -/
import Derived.Test.YtbpednchkndocaaGreatDoorPy8
import Derived.Test.YtbpednchkndocaaGreatDoorSi7
import Derived.Test.YtbpednchkndocaaGreatDoorSm1
import Derived.Test.YtbpednchkndocaaGreatDoorPy5
import Derived.Test.YtbpednchkndocaaGreatDoorSm0
import Derived.Test.YtbpednchkndocaaGreatDoorPq6
set_option linter.unusedVariables false
set_option linter.unusedSimpArgs false
set_option maxRecDepth 100000
set_option maxHeartbeats 64000000
namespace Go.Proofs.YtbpednchkndocaaGreatDoor.Av
namespace Si
open Go Bt Sh Co Ci Tc
attribute [local irreducible] aa ACalls av ai aN aB bf aP aQ
theorem BA {c:Cel} (h:uZ c):Cs.yl c:=by
 have h0:=h.e0.1
 have h1:=h.e1.1
 have h2:=h.e2.1
 have h3:=h.e3.1
 have h4:=h.e4.1
 have h5:=h.e5.1
 unfold Cs.yl
 omega
attribute [local irreducible] shX Tc.bB suD dw rsD lZ jW jq aC
theorem sheetinTakes_law (s:List UInt8) (q:Int) (hs:s.length≤140737488351232) (hq:I64 q) :
  ACalls (cxg gB) 3 [S s,I q] [] (fun r H=>r=B true∧H=[]):=by
 have lv:=DF
 have nw:=zl (gl:=gB) s
 rcases Nat.lt_or_ge 2000 s.length with hlen|hlen
 ·refine ACalls.en Tryz.func3 Tryz.ntmps3 ?_
  repeat' (first|refine aa.ah [] ( nw) ?_|refine aa.ae (lv) ?_|intro _|refine aa.bA ?_)
  all_goals first|exact⟨rfl,rfl⟩|omega
 ·by_cases hr:q<0∨8*(s.length:Int)<q
  ·have sk:=Fu (gl:=gB) s 0 q (by omega) hr
   refine ACalls.en Tryz.func3 Tryz.ntmps3 ?_
   repeat' (first|refine aa.ah [] ( nw) ?_|refine aa.ah [0] ( sk) ?_|refine aa.ae (lv) ?_|intro _|refine aa.bA ?_)
   all_goals first|exact⟨rfl,rfl⟩|omega
  ·obtain⟨p,rfl⟩:=Int.eq_ofNat_of_zero_le (show 0≤q by omega)
   have sk:=ed (gl:=gB) s 0 p (by omega) ⟨by omega,by omega⟩
   have tk:=yH s p (by omega) (by omega)
   have rt:=DJ (gl:=gB) s p (by omega) (by omega)
   have sh:=K3 (gl:=gB) s (by omega)
   have nl:=yG
   have so:=II (s:=s) (p:=p) (by omega) (by omega)
   have se:=K4 (s:=s) (p:=p)
   generalize shX s p=X at *
   obtain⟨h,rs,z,e,u⟩:=X
   simp only at tk rt so se
   have a0:=qw (gl:=gB) s (u:Int)
   have sm:ACalls (cxg gB) 18 [.d (shD h (rsD rs) z), .d (shD h (rsD rs) z)] [] (fun r H=>r=B true∧H=[]):=by
    by_cases he:e=0
    ·obtain⟨o1,o2,o3,o4,o5,o6,o7,o8⟩:=so he
     have ok:=K7 o5 o7
     have hl:=LU o5
     refine oV h rs z (by have:=ok.few;omega) (fun r hr=>by have:=(ok.cells r hr).1;omega) (by omega) (fun r hr c hc=>BA (o7 r hr c hc))
    ·obtain⟨rfl,rfl,rfl,rfl⟩:h=hd0∧rs=[]∧z=0∧u=p:=by
      have:=se he
      simp only[Prod.mk.injEq]at this
      exact⟨this.1,this.2.1,this.2.2.1,this.2.2.2.2⟩
     exact oV hd0 [] ((0:Nat):Int) (by decide) (by simp) (by decide) (by simp)
   clear so se
   refine ACalls.en Tryz.func3 Tryz.ntmps3 ?_
   repeat' (first|refine aa.ah [] ( nw) ?_|refine aa.ah [0] ( sk) ?_|refine aa.ah [0] ( tk) ?_|refine aa.ah [0] ( a0) ?_|refine aa.ae (sh) ?_|refine aa.ae (rt) ?_|refine aa.ae (nl) ?_|refine aa.ae (sm) ?_|refine aa.ae (lv) ?_|intro _|refine aa.bA ?_)
   all_goals first|exact⟨rfl,rfl⟩|omega
end Si
end Go.Proofs.YtbpednchkndocaaGreatDoor.Av
namespace Go.Proofs.YtbpednchkndocaaGreatDoor.Av
namespace Si
open Go Bt Sh
def Ats (s:List UInt8) (p:Nat) (w:List UInt8):Prop:=p+w.length≤8*s.length∧W s p (p+w.length)=w
theorem Ats.app {s:List UInt8} {p:Nat} {a b:List UInt8} (h:Ats s p (a++b)):Ats s p a∧Ats s (p+a.length) b:=by
 obtain⟨h1,h2⟩:=h
 rw[List.length_append]at h1 h2
 have e:=mZ (s:=s) (p:=p) (u:=p+a.length) (v:=p+(a.length+b.length)) (by omega) (by omega)
 rw[←e]at h2
 have l1:=HZ (s:=s) (p:=p) (u:=p+a.length) (by omega) (by omega)
 obtain⟨e1,e2⟩:=List.append_inj h2 (by rw[l1];omega)
 exact⟨⟨by omega,e1⟩,⟨by omega,by rw[Nat.add_assoc];exact e2⟩⟩
theorem Ats.bits {s:List UInt8} {p:Nat} {w:List UInt8} (h:Ats s p w):(af s p).take w.length=w.map und:=by
 have h2:=h.2
 unfold W at h2
 rw[Nat.add_sub_cancel_left]at h2
 have:=Rn.sJ ((af s p).take w.length) (cT s p w.length)
 rw[h2]at this
 exact this.symm
end Si
end Go.Proofs.YtbpednchkndocaaGreatDoor.Av
namespace Go.Proofs.YtbpednchkndocaaGreatDoor.Av
namespace Si
open Go Bt Tc Co Bl Ci Sh Mb
def MM (w:List UInt8):Prop:=∃k,k<15∧w[k]?=some 49
theorem MM.app {a b:List UInt8} (h:MM a):MM (a++b):=by
 obtain⟨k,h1,h2⟩:=h
 exact⟨k,h1,by rw[List.getElem?_append_left (ak h2)];exact h2⟩
end Si
end Go.Proofs.YtbpednchkndocaaGreatDoor.Av
namespace Go.Proofs.YtbpednchkndocaaGreatDoor.Av
namespace Cs
open Go Bt Tc Co
attribute [local irreducible] aa ACalls av ai aN aB
variable {gl:List (Nat×List D)}
def MK (c:Cel):Prop:=c.e0.length≤1000000000000∧c.e1.length≤1000000000000∧c.e2.length≤1000000000000∧c.e3.length≤1000000000000∧c.e4.length≤1000000000000∧c.e5.length≤1000000000000
attribute [local irreducible] Tc.bB oI
end Cs
namespace Cs
open Go Bt Tc Co Bl Ci
attribute [local irreducible] aa ACalls av ai aN aB
attribute [local irreducible] Tc.bB
end Cs
namespace Cs
open Go Bt Tc Co
attribute [local irreducible] aa ACalls av ai aN aB
variable {gl:List (Nat×List D)}
attribute [local irreducible] Tc.bB oI
end Cs
end Go.Proofs.YtbpednchkndocaaGreatDoor.Av
namespace Go.Proofs.YtbpednchkndocaaGreatDoor.Av
namespace Sr
open Go Bt Sh Co Ci Tc Si
structure Sx where
 h:Hd
 rs:List Rw
 z:Int
structure Pr where
 l:List Sx
 e:Bool
 at_:Nat
 err:Int
end Sr
end Go.Proofs.YtbpednchkndocaaGreatDoor.Av
namespace Go.Proofs.YtbpednchkndocaaGreatDoor.Av
namespace Sr
open Go Bt Sh Co Ci Tc
attribute [local irreducible] aa ACalls av ai aN aB bf aP aQ
variable {gl:List (Nat×List D)}
def ML (l:List Cel):Prop:=l.length≤1000000∧∀c∈l,Cs.MK c
def MJ (l:List Rw):Prop:=l.length≤1000000∧∀r∈l,ML r.cells
structure OG (x:Sx):Prop where
 s:x.h.supp.length≤100
 r:MJ x.rs
attribute [local irreducible] bB suD dw rsD
end Sr
end Go.Proofs.YtbpednchkndocaaGreatDoor.Av
