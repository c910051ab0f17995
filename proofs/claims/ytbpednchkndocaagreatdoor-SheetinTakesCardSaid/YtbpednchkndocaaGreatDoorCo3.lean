/- Cells: which blocks are coded; whether a cell may be. -/
import Derived.Test.YtbpednchkndocaaGreatDoorCo1
set_option linter.unusedVariables false
set_option linter.unusedSimpArgs false
set_option maxRecDepth 100000
set_option maxHeartbeats 64000000
namespace Go.Proofs.YtbpednchkndocaaGreatDoor.Av
namespace Co
open Go Bt Tc Wr Bl
attribute [local irreducible] aa ACalls
variable {gl:List (Nat×List D)}
attribute [local irreducible] cn ku
theorem JP (c:Cel):ACalls (cxg gl) 150 [.d (gz c)] [] (fun r H=>r=I (fK c)∧H=[]):=by
 obtain⟨st,sk,ki,sp,mx,my,d0,d1,d2,d3,d4,d5,e0,e1,e2,e3,e4,e5⟩:=c
 unfold fK
 refine ACalls.en Tryz.func150 Tryz.ntmps150 ?_
 repeat' (first|refine aa.aD ?_|(apply aa.q true;rfl;rfl;rfl;rfl;first|exact True.intro|omega|(simp only[tn,Int.reduceToNat];omega)|(exact⟨by omega,Nat.le_of_ble_eq_true rfl⟩))|refine aa.aW ?_|refine aa.ae ?_|refine aa.af ?_|refine aa.ba ?_|apply aa.cK|apply aa.lpU|intro _|(apply aa.ed ;rfl)|refine aa.av ?_)
 all_goals first|exact⟨congrArg I (by simp only[J4,J5,not_false_eq_true, *];rfl),rfl⟩
def sS (l:List Ev):Prop:=l.length≤1000000∧∀e∈l,MJ e
structure vM (c:Cel):Prop where
 x:I64 c.mx
 y:I64 c.my
 step:I64 c.step
 e0:sS c.e0
 e1:sS c.e1
 e2:sS c.e2
 e3:sS c.e3
 e4:sS c.e4
 e5:sS c.e5
def yK (c:Cel):Bool:=gV (bf c.kind) c.d0 c.e0&&gV (bf c.kind) c.d1 c.e1&&gV (bf c.kind) c.d2 c.e2&&gV (bf c.kind) c.d3 c.e3&&gV (bf c.kind) c.d4 c.e4&&gV (bf c.kind) c.d5 c.e5
def jq (b:Bool) (c:Cel):Bool:=bf c.kind||(b&&decide (c.kind=0∨c.kind=1))
def xm (c:Cel):Bool:=(xp c.step==dP c.kind)&&(xp c.step||decide (c.step=0))
def kw (b:Bool) (c:Cel):Bool:=if c.stuff<0∨64<c.stuff then false else if c.skip=true then b&&Ky c else jq b c&&xm c&&xh c&&yK c
end Co
end Go.Proofs.YtbpednchkndocaaGreatDoor.Av
