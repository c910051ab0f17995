/- Cells: Put. -/
import Derived.Test.YtbpednchkndocaaGreatDoorCo5
import Derived.Test.YtbpednchkndocaaGreatDoorPs2
set_option linter.unusedVariables false
set_option linter.unusedSimpArgs false
set_option maxRecDepth 100000
set_option maxHeartbeats 64000000
namespace Go.Proofs.YtbpednchkndocaaGreatDoor.Av
namespace Co
open Go Bt Tc Wr Bl Mb Cb Mv
attribute [local irreducible] aa ACalls
variable {gl:List (Nat×List D)}
def yn (W:List UInt8) (n:Nat):Prop:=W.all bC=true∧W.length≤n
theorem yn.app {W r:List UInt8} {n m:Nat} (h:yn W n) (k:yn r m):yn (W++r) (n+m):=by
 obtain⟨h1,h2⟩:=h
 obtain⟨k1,k2⟩:=k
 exact⟨by rw[List.all_append,h1,k1];rfl,by rw[List.length_append];omega⟩
theorem yn.add {W r:List UInt8} {n m:Nat} (h:yn W n) (k:yn r m) (hl:n+m≤100000000):ACalls (cxg gl) 24 [.ptr 0 0,S r] (WO W) (fun x H=>x=I 0∧H=WO (W++r)) :=
 Ao W r h.1 k.1 (by have:=h.2;have:=k.2;omega)
def mvR (c:Cel) (m p:Int):List UInt8:=if aI c.kind=true then [] else nT (bW (m - bW p))
def stR (c:Cel):List UInt8:=if cW c.kind=true then vB c.step else []
def putRow (w:List UInt8) (b:Bool) (px py:Int) (c:Cel):List UInt8:=if c.skip=true then w++eu b c else
 ((((((((((w++eu b c)++ql (aI c.kind) (eC c / 2^2))++stR c)++mvR c c.mx px)++mvR c c.my py)++kL (aI c.kind) c.d0 c.e0)++kL (aI c.kind) c.d1 c.e1)++kL (aI c.kind) c.d2 c.e2)++kL (aI c.kind) c.d3 c.e3)++kL (aI c.kind) c.d4 c.e4)++kL (aI c.kind) c.d5 c.e5
attribute [local irreducible] bB ba cn eO lc eC jF eu ql vB nT kL fQ bW wO
end Co
end Go.Proofs.YtbpednchkndocaaGreatDoor.Av
namespace Go.Proofs.YtbpednchkndocaaGreatDoor.Av
namespace Co
open Go Bt Tc Wr Bl Mb Cb Mv
attribute [local irreducible] aa ACalls
variable {gl:List (Nat×List D)}
attribute [local irreducible] bB eO eC ql vB nT kL fQ bW wO ku jD aI cW
end Co
section
open Go
theorem dA.agg {cs ds:List D} (hl:ds.length=cs.length) (hone:∀d∈ds,d.one=true) (h:∀(i:Nat) (c d:D),cs[i]?=some c→ds[i]?=some d→dA c d):dA (.agg cs) (.agg ds):=fun imm v hv=>by
 cases hv with
 |agg vs _ h1 h2 h3 =>
  refine .agg vs ds (by omega) hone fun i d hd=>?_
  have hi:i<cs.length:=by have:=ak hd;omega
  exact h i _ d (List.getElem?_eq_getElem hi) hd imm _ (h3 i _ (List.getElem?_eq_getElem hi))
end
namespace Co
open Go Bt Tc
def EH (l:List Ev):Prop:=l.length≤9223372036854775807∧∀e∈l,MN e
structure OI (c:Cel):Prop where
 stuff:I64 c.stuff
 kind:I64 c.kind
 step:I64 c.step
 x:I64 c.mx
 y:I64 c.my
 e0:EH c.e0
 e1:EH c.e1
 e2:EH c.e2
 e3:EH c.e3
 e4:EH c.e4
 e5:EH c.e5
end Co
end Go.Proofs.YtbpednchkndocaaGreatDoor.Av
namespace Go.Proofs.YtbpednchkndocaaGreatDoor.Av
namespace Sh
open Go Bt Tc Co
attribute [local irreducible] aa ACalls
variable {gl:List (Nat×List D)}
def Jt (i:Nat) (r:Rw):Bool:=if r.head=true then decide (i≠0∧(0≤r.id∧r.id≤3)∧(1≤r.quant∧r.quant≤31)) else decide (r.id=0∧r.quant=0)
def AP (h:Hd) (i:Nat) (r:Rw):Bool:=decide ((r.cells.length:Int)=fA h.fmt*fL h.fmt)&&Jt i r&&r.cells.all (jF h.inter)
theorem L9 (f:Int):0≤fA f*fL f∧fA f*fL f≤1000:=by
 rcases G5 f with rfl|rfl|rfl|rfl|rfl|rfl|h
 rotate_right
 ·obtain⟨e1,e2,e3,e4,e5⟩:=G7 h
  unfold fA;rw[e1,e4];decide
 all_goals decide
attribute [local irreducible] bB suD dw rsD jF
def ju (h:Hd) (rs:List Rw):Nat→Bool
 |0=>true
 |n+1=>ju h rs n&&(match rs[n]? with|some r=>AP h n r|none=>true)
theorem tV {h:Hd} {rs:List Rw} {n:Nat} {r:Rw} (hr:rs[n]?=some r):ju h rs (n+1)=(ju h rs n&&AP h n r):=by simp only[ju,hr]
attribute [local irreducible] AP ju
end Sh
end Go.Proofs.YtbpednchkndocaaGreatDoor.Av
namespace Go.Proofs.YtbpednchkndocaaGreatDoor.Av
namespace Sh
open Go Bt Tc Co Wr
attribute [local irreducible] aa ACalls
variable {gl:List (Nat×List D)}
def mvP (c:Cel):Int×Int:=(c.mx,c.my)
def BF (f:Int) (n:Nat) (c:Cel):Bool:=aI c.kind||nU f n (mvP c)
def jW (f:Int) (l:List Cel):Nat→Bool
 |0=>true
 |n+1=>jW f l n&&(match l[n]? with|some c=>BF f n c|none=>true)
theorem Ap {f:Int} {l:List Cel} {n:Nat} {c:Cel} (hc:l[n]?=some c):jW f l (n+1)=(jW f l n&&BF f n c):=by simp only[jW,hc]
def lZ (h:Hd) (rs:List Rw) (z:Int):Bool:=nV h&&decide (0≤z∧z≤262144)&&decide ((rs.length:Int)=fR h.fmt)&&ju h rs rs.length
theorem yN {h:Hd} {n:Nat} {r:Rw} (hr:AP h n r=true):(r.cells.length:Int)=fA h.fmt*fL h.fmt:=by
 unfold AP at hr
 simp only[Bool.and_eq_true,decide_eq_true_eq]at hr
 exact hr.1.1
theorem vG {h:Hd} {rs:List Rw}:∀n,n≤rs.length→ju h rs n=true→((cellsOf (rs.take n)).length:Int)=n*(fA h.fmt*fL h.fmt)
 |0,_,_=>by simp[cellsOf]
 |n+1,hn,hh=>by
  obtain⟨r,hr⟩:∃r,rs[n]?=some r:=⟨_,List.getElem?_eq_getElem (by omega)⟩
  rw[tV hr,Bool.and_eq_true]at hh
  have ih:=vG n (by omega) hh.1
  have hl:=yN hh.2
  rw[xU hr,List.length_append,Int.natCast_add,ih,hl,Int.natCast_add,Int.add_mul]
  simp
theorem G6 {f:Int} (h:fOk f=true):fR f*(fA f*fL f)=fA f*fD f:=by
 have hb:=qP h
 have:f=1∨f=2∨f=3∨f=4∨f=5∨f=6:=by omega
 rcases this with rfl|rfl|rfl|rfl|rfl|rfl<;>decide
theorem qM {h:Hd} {rs:List Rw} {z:Int} (hh:lZ h rs z=true):nV h=true∧(0≤z∧z≤262144)∧(rs.length:Int)=fR h.fmt∧ju h rs rs.length=true:=by
 unfold lZ at hh
 simp only[Bool.and_eq_true,decide_eq_true_eq]at hh
 exact⟨hh.1.1.1,hh.1.1.2,hh.1.2,hh.2⟩
theorem Ej {h:Hd} {rs:List Rw} {z:Int} (hh:lZ h rs z=true):fOk h.fmt=true∧((cellsOf rs).length:Int)=fA h.fmt*fD h.fmt:=by
 obtain⟨h1,h2,h3,h4⟩:=qM hh
 have hf:=(uz h1).1.1
 refine⟨hf,?_⟩
 have:=vG rs.length (Nat.le_refl _) h4
 rw[List.take_length,h3,G6 hf]at this
 exact this
attribute [local irreducible] bB suD dw rsD jF ju nV eu ba cn pG nU
end Sh
end Go.Proofs.YtbpednchkndocaaGreatDoor.Av
namespace Go.Proofs.YtbpednchkndocaaGreatDoor.Av
namespace Co
open Go Bt Tc Wr Bl
attribute [local irreducible] aa ACalls
variable {gl:List (Nat×List D)}
theorem yn.nil (n:Nat):yn [] n:=⟨rfl,by simp⟩
end Co
namespace Sh
open Go Bt Co Wr
attribute [local irreducible] aa ACalls
variable {gl:List (Nat×List D)}
def qi (b:Bool) (A F:Int) (vs:List (Int×Int)) (c:Cel):List UInt8:=putRow [] b (ofV vs A F).1 (ofV vs A F).2 c
attribute [local irreducible] Tc.bB suD dw rsD jF ba cn pG putRow ofV vD
end Sh
namespace Sh
open Go Bt Co Wr
def mvs (l:List Cel):List (Int×Int):=l.map mvP
theorem I8 (l m:List Cel):mvs (l++m)=mvs l++mvs m:=by simp[mvs]
theorem I7 (l:List Cel):(mvs l).length=l.length:=by simp[mvs]
def jC (b:Bool) (A F:Int):List (Int×Int)→List Cel→List UInt8
 |_,[]=>[]
 |vs,c::r=>qi b A F vs c++jC b A F (vs++[mvP c]) r
def iP (L:Int) (rs:List Rw):Nat→Int
 |0=>0
 |i+1=>match rs[i]? with|some r=>if r.head=true then i*L else iP L rs i|none=>iP L rs i
def jL (n:Nat) (i:Nat) (r:Rw) (out:List UInt8):List UInt8:=if r.head=true then out++(zs (bv (n+out.length))++yO i r.id r.quant) else out
def qG (h:Hd) (rs:List Rw) (n:Nat):Nat→List UInt8
 |0=>zs (bv n)++eu h
 |i+1=>match rs[i]? with|some r=>jL n i r (qG h rs n i)++jC h.inter (fA h.fmt) (iP (fL h.fmt) rs (i+1)) (mvs (cellsOf (rs.take i))) r.cells|none=>qG h rs n i
theorem zL {L:Int} {rs:List Rw} {i:Nat} {r:Rw} (h:rs[i]?=some r):iP L rs (i+1)=if r.head=true then i*L else iP L rs i:=by simp only[iP,h]
theorem DY {h:Hd} {rs:List Rw} {n i:Nat} {r:Rw} (hr:rs[i]?=some r):qG h rs n (i+1)=jL n i r (qG h rs n i)++jC h.inter (fA h.fmt) (iP (fL h.fmt) rs (i+1)) (mvs (cellsOf (rs.take i))) r.cells:=by simp only[qG,hr]
def jq (h:Hd) (rs:List Rw) (z:Int) (n:Nat):List UInt8:=qG h rs n rs.length++zs (bv (n+(qG h rs n rs.length).length))++zs (8*z.toNat)
theorem jJ (n:Nat):bv n≤7:=by have:=Cr n;omega
theorem yM {h:Hd} {rs:List Rw}:∀{n i:Nat} {r:Rw},ju h rs n=true→i<n→rs[i]?=some r→AP h i r=true
 |n+1,i,r,hh,hi,hr=>by
  rw[ju,Bool.and_eq_true]at hh
  by_cases he:i=n
  ·subst he
   have:=hh.2
   rw[hr]at this
   exact this
  ·exact yM hh.1 (by omega) hr
end Sh
namespace Sh
open Go Bt Co Wr
attribute [local irreducible] aa ACalls
variable {gl:List (Nat×List D)}
attribute [local irreducible] Tc.bB suD dw rsD jF ba cn pG putRow ofV vD ju nV Sh.eu yO zs jC qG jL iP mvs cellsOf qi jW
end Sh
end Go.Proofs.YtbpednchkndocaaGreatDoor.Av
