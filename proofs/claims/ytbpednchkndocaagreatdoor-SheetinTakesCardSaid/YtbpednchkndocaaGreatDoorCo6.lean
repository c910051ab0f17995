/- Cells: Put. -/
import Derived.Test.YtbpednchkndocaaGreatDoorCo5
import Derived.Test.YtbpednchkndocaaGreatDoorPs2
set_option linter.unusedVariables false
set_option linter.unusedSimpArgs false
set_option maxRecDepth 100000
set_option maxHeartbeats 64000000
namespace Go.Proofs.YtbpednchkndocaaGreatDoor.Av
namespace Co
open Go Bt Tc Wr Bl Mb Cb Mv
attribute [local irreducible] aa ACalls
variable {gl:List (Nat×List D)}
def yR (W:List UInt8) (n:Nat):Prop:=W.all bZ=true∧W.length≤n
theorem yR.app {W r:List UInt8} {n m:Nat} (h:yR W n) (k:yR r m):yR (W++r) (n+m):=by
 obtain⟨h1,h2⟩:=h
 obtain⟨k1,k2⟩:=k
 exact⟨by rw[List.all_append,h1,k1];rfl,by rw[List.length_append];omega⟩
theorem yR.add {W r:List UInt8} {n m:Nat} (h:yR W n) (k:yR r m) (hl:n+m≤100000000):ACalls (cxg gl) 24 [.ptr 0 0,S r] (WO W) (fun x H=>x=I 0∧H=WO (W++r)) :=
 A9 W r h.1 k.1 (by have:=h.2;have:=k.2;omega)
def mvR (c:Cel) (m p:Int):List UInt8:=if bf c.kind=true then [] else oN (cW (m - cW p))
def stR (c:Cel):List UInt8:=if dP c.kind=true then wh c.step else []
def putRow (w:List UInt8) (b:Bool) (px py:Int) (c:Cel):List UInt8:=if c.skip=true then w++fI b c else
 ((((((((((w++fI b c)++qR (bf c.kind) (fK c / 2^2))++stR c)++mvR c c.mx px)++mvR c c.my py)++lL (bf c.kind) c.d0 c.e0)++lL (bf c.kind) c.d1 c.e1)++lL (bf c.kind) c.d2 c.e2)++lL (bf c.kind) c.d3 c.e3)++lL (bf c.kind) c.d4 c.e4)++lL (bf c.kind) c.d5 c.e5
attribute [local irreducible] cn bO dx fT l9 fK kw fI qR wh oN lL gV cW xp
end Co
end Go.Proofs.YtbpednchkndocaaGreatDoor.Av
namespace Go.Proofs.YtbpednchkndocaaGreatDoor.Av
namespace Co
open Go Bt Tc Wr Bl Mb Cb Mv
attribute [local irreducible] aa ACalls
variable {gl:List (Nat×List D)}
attribute [local irreducible] cn fT fK qR wh oN lL gV cW xp ll ku bf dP
end Co
section
open Go
theorem d9.agg {cs ds:List D} (hl:ds.length=cs.length) (hone:∀d∈ds,d.one=true) (h:∀(i:Nat) (c d:D),cs[i]?=some c→ds[i]?=some d→d9 c d):d9 (.agg cs) (.agg ds):=fun imm v hv=>by
 cases hv with
 |agg vs _ h1 h2 h3 =>
  refine .agg vs ds (by omega) hone fun i d hd=>?_
  have hi:i<cs.length:=by have:=aJ hd;omega
  exact h i _ d (List.getElem?_eq_getElem hi) hd imm _ (h3 i _ (List.getElem?_eq_getElem hi))
end
namespace Co
open Go Bt Tc
def EZ (l:List Ev):Prop:=l.length≤9223372036854775807∧∀e∈l,MJ e
structure OC (c:Cel):Prop where
 stuff:I64 c.stuff
 kind:I64 c.kind
 step:I64 c.step
 x:I64 c.mx
 y:I64 c.my
 e0:EZ c.e0
 e1:EZ c.e1
 e2:EZ c.e2
 e3:EZ c.e3
 e4:EZ c.e4
 e5:EZ c.e5
end Co
end Go.Proofs.YtbpednchkndocaaGreatDoor.Av
namespace Go.Proofs.YtbpednchkndocaaGreatDoor.Av
namespace Sh
open Go Bt Tc Co
attribute [local irreducible] aa ACalls
variable {gl:List (Nat×List D)}
def Jz (i:Nat) (r:Rw):Bool:=if r.head=true then decide (i≠0∧(0≤r.id∧r.id≤3)∧(1≤r.quant∧r.quant≤31)) else decide (r.id=0∧r.quant=0)
def Bq (h:Hd) (i:Nat) (r:Rw):Bool:=decide ((r.cells.length:Int)=fA h.fmt*fL h.fmt)&&Jz i r&&r.cells.all (kw h.inter)
theorem L9 (f:Int):0≤fA f*fL f∧fA f*fL f≤1000:=by
 rcases Hj f with rfl|rfl|rfl|rfl|rfl|rfl|h
 rotate_right
 ·obtain⟨e1,e2,e3,e4,e5⟩:=Hl h
  unfold fA;rw[e1,e4];decide
 all_goals decide
attribute [local irreducible] cn suD dZ rsD kw
def jX (h:Hd) (rs:List Rw):Nat→Bool
 |0=>true
 |n+1=>jX h rs n&&(match rs[n]? with|some r=>Bq h n r|none=>true)
theorem uE {h:Hd} {rs:List Rw} {n:Nat} {r:Rw} (hr:rs[n]?=some r):jX h rs (n+1)=(jX h rs n&&Bq h n r):=by simp only[jX,hr]
attribute [local irreducible] Bq jX
end Sh
end Go.Proofs.YtbpednchkndocaaGreatDoor.Av
namespace Go.Proofs.YtbpednchkndocaaGreatDoor.Av
namespace Sh
open Go Bt Tc Co Wr
attribute [local irreducible] aa ACalls
variable {gl:List (Nat×List D)}
def mvP (c:Cel):Int×Int:=(c.mx,c.my)
def Cg (f:Int) (n:Nat) (c:Cel):Bool:=bf c.kind||oO f n (mvP c)
def kR (f:Int) (l:List Cel):Nat→Bool
 |0=>true
 |n+1=>kR f l n&&(match l[n]? with|some c=>Cg f n c|none=>true)
theorem Ba {f:Int} {l:List Cel} {n:Nat} {c:Cel} (hc:l[n]?=some c):kR f l (n+1)=(kR f l n&&Cg f n c):=by simp only[kR,hc]
def mX (h:Hd) (rs:List Rw) (z:Int):Bool:=oP h&&decide (0≤z∧z≤262144)&&decide ((rs.length:Int)=fR h.fmt)&&jX h rs rs.length
theorem zu {h:Hd} {n:Nat} {r:Rw} (hr:Bq h n r=true):(r.cells.length:Int)=fA h.fmt*fL h.fmt:=by
 unfold Bq at hr
 simp only[Bool.and_eq_true,decide_eq_true_eq]at hr
 exact hr.1.1
theorem wy {h:Hd} {rs:List Rw}:∀n,n≤rs.length→jX h rs n=true→((cellsOf (rs.take n)).length:Int)=n*(fA h.fmt*fL h.fmt)
 |0,_,_=>by simp[cellsOf]
 |n+1,hn,hh=>by
  obtain⟨r,hr⟩:∃r,rs[n]?=some r:=⟨_,List.getElem?_eq_getElem (by omega)⟩
  rw[uE hr,Bool.and_eq_true]at hh
  have ih:=wy n (by omega) hh.1
  have hl:=zu hh.2
  rw[yD hr,List.length_append,Int.natCast_add,ih,hl,Int.natCast_add,Int.add_mul]
  simp
theorem Hk {f:Int} (h:fOk f=true):fR f*(fA f*fL f)=fA f*fD f:=by
 have hb:=rO h
 have:f=1∨f=2∨f=3∨f=4∨f=5∨f=6:=by omega
 rcases this with rfl|rfl|rfl|rfl|rfl|rfl<;>decide
theorem rL {h:Hd} {rs:List Rw} {z:Int} (hh:mX h rs z=true):oP h=true∧(0≤z∧z≤262144)∧(rs.length:Int)=fR h.fmt∧jX h rs rs.length=true:=by
 unfold mX at hh
 simp only[Bool.and_eq_true,decide_eq_true_eq]at hh
 exact⟨hh.1.1.1,hh.1.1.2,hh.1.2,hh.2⟩
theorem EB {h:Hd} {rs:List Rw} {z:Int} (hh:mX h rs z=true):fOk h.fmt=true∧((cellsOf rs).length:Int)=fA h.fmt*fD h.fmt:=by
 obtain⟨h1,h2,h3,h4⟩:=rL hh
 have hf:=(uX h1).1.1
 refine⟨hf,?_⟩
 have:=wy rs.length (Nat.le_refl _) h4
 rw[List.take_length,h3,Hk hf]at this
 exact this
attribute [local irreducible] cn suD dZ rsD kw jX oP fI bO dx qo oO
end Sh
end Go.Proofs.YtbpednchkndocaaGreatDoor.Av
namespace Go.Proofs.YtbpednchkndocaaGreatDoor.Av
namespace Co
open Go Bt Tc Wr Bl
attribute [local irreducible] aa ACalls
variable {gl:List (Nat×List D)}
theorem yR.nil (n:Nat):yR [] n:=⟨rfl,by simp⟩
end Co
namespace Sh
open Go Bt Co Wr
attribute [local irreducible] aa ACalls
variable {gl:List (Nat×List D)}
def qP (b:Bool) (A F:Int) (vs:List (Int×Int)) (c:Cel):List UInt8:=putRow [] b (ofV vs A F).1 (ofV vs A F).2 c
attribute [local irreducible] Tc.cn suD dZ rsD kw bO dx qo putRow ofV vD
end Sh
namespace Sh
open Go Bt Co Wr
def mvs (l:List Cel):List (Int×Int):=l.map mvP
theorem Jd (l m:List Cel):mvs (l++m)=mvs l++mvs m:=by simp[mvs]
theorem Jc (l:List Cel):(mvs l).length=l.length:=by simp[mvs]
def kr (b:Bool) (A F:Int):List (Int×Int)→List Cel→List UInt8
 |_,[]=>[]
 |vs,c::r=>qP b A F vs c++kr b A F (vs++[mvP c]) r
def ju (L:Int) (rs:List Rw):Nat→Int
 |0=>0
 |i+1=>match rs[i]? with|some r=>if r.head=true then i*L else ju L rs i|none=>ju L rs i
def kF (n:Nat) (i:Nat) (r:Rw) (out:List UInt8):List UInt8:=if r.head=true then out++(zs (bW (n+out.length))++zw i r.id r.quant) else out
def rF (h:Hd) (rs:List Rw) (n:Nat):Nat→List UInt8
 |0=>zs (bW n)++fI h
 |i+1=>match rs[i]? with|some r=>kF n i r (rF h rs n i)++kr h.inter (fA h.fmt) (ju (fL h.fmt) rs (i+1)) (mvs (cellsOf (rs.take i))) r.cells|none=>rF h rs n i
theorem Aj {L:Int} {rs:List Rw} {i:Nat} {r:Rw} (h:rs[i]?=some r):ju L rs (i+1)=if r.head=true then i*L else ju L rs i:=by simp only[ju,h]
theorem Ej {h:Hd} {rs:List Rw} {n i:Nat} {r:Rw} (hr:rs[i]?=some r):rF h rs n (i+1)=kF n i r (rF h rs n i)++kr h.inter (fA h.fmt) (ju (fL h.fmt) rs (i+1)) (mvs (cellsOf (rs.take i))) r.cells:=by simp only[rF,hr]
def jV (h:Hd) (rs:List Rw) (z:Int) (n:Nat):List UInt8:=rF h rs n rs.length++zs (bW (n+(rF h rs n rs.length).length))++zs (8*z.toNat)
theorem kD (n:Nat):bW n≤7:=by have:=CO n;omega
theorem zt {h:Hd} {rs:List Rw}:∀{n i:Nat} {r:Rw},jX h rs n=true→i<n→rs[i]?=some r→Bq h i r=true
 |n+1,i,r,hh,hi,hr=>by
  rw[jX,Bool.and_eq_true]at hh
  by_cases he:i=n
  ·subst he
   have:=hh.2
   rw[hr]at this
   exact this
  ·exact zt hh.1 (by omega) hr
end Sh
namespace Sh
open Go Bt Co Wr
attribute [local irreducible] aa ACalls
variable {gl:List (Nat×List D)}
attribute [local irreducible] Tc.cn suD dZ rsD kw bO dx qo putRow ofV vD jX oP Sh.fI zw zs kr rF kF ju mvs cellsOf qP kR
end Sh
end Go.Proofs.YtbpednchkndocaaGreatDoor.Av
