/- Cells: which blocks are coded; whether a cell may be. -/
import Derived.Test.YtbpednchkndocaaGreatDoorCo1
set_option linter.unusedVariables false
set_option linter.unusedSimpArgs false
set_option maxRecDepth 100000
set_option maxHeartbeats 64000000
namespace Go.Proofs.YtbpednchkndocaaGreatDoor.Av
namespace Co
open Go Bt Tc Wr Bl
attribute [local irreducible] aa ACalls
variable {gl:List (Nat×List D)}
attribute [local irreducible] bB jD
theorem JM (c:Cel):ACalls (cxg gl) 150 [.d (fw c)] [] (fun r H=>r=I (eC c)∧H=[]):=by
 obtain⟨st,sk,ki,sp,mx,my,d0,d1,d2,d3,d4,d5,e0,e1,e2,e3,e4,e5⟩:=c
 unfold eC
 refine ACalls.en Tryz.func150 Tryz.ntmps150 ?_
 repeat' (first|(apply aa.q true;rfl;rfl;rfl;rfl;first|exact True.intro|omega|(simp only[tn,Int.reduceToNat];omega)|(exact⟨by omega,Nat.le_of_ble_eq_true rfl⟩))|apply aa.bO|apply aa.lpU|intro _|(apply aa.dB ;rfl)|refine aa.bA ?_)
 all_goals first|exact⟨congrArg I (by simp only[J1,J2,not_false_eq_true,*];rfl),rfl⟩
def rQ (l:List Ev):Prop:=l.length≤1000000∧∀e∈l,MN e
structure uZ (c:Cel):Prop where
 x:I64 c.mx
 y:I64 c.my
 step:I64 c.step
 e0:rQ c.e0
 e1:rQ c.e1
 e2:rQ c.e2
 e3:rQ c.e3
 e4:rQ c.e4
 e5:rQ c.e5
def yd (c:Cel):Bool:=fQ (aI c.kind) c.d0 c.e0&&fQ (aI c.kind) c.d1 c.e1&&fQ (aI c.kind) c.d2 c.e2&&fQ (aI c.kind) c.d3 c.e3&&fQ (aI c.kind) c.d4 c.e4&&fQ (aI c.kind) c.d5 c.e5
def iN (b:Bool) (c:Cel):Bool:=aI c.kind||(b&&decide (c.kind=0∨c.kind=1))
def wM (c:Cel):Bool:=(wO c.step==cW c.kind)&&(wO c.step||decide (c.step=0))
def jF (b:Bool) (c:Cel):Bool:=if c.stuff<0∨64<c.stuff then false else if c.skip=true then b&&Kw c else iN b c&&wM c&&wJ c&&yd c
end Co
end Go.Proofs.YtbpednchkndocaaGreatDoor.Av
