/- Blocks: what may be one, and its row: both programs. Blocks: Put, and the reference's May and Row. Blocks: the reference's May and Row. -/
import Derived.Test.YtbpednchkndocaaGreatDoorPt2
import Derived.Test.YtbpednchkndocaaGreatDoorPw
set_option linter.unusedVariables false
set_option linter.unusedSimpArgs false
set_option maxRecDepth 100000
set_option maxHeartbeats 64000000
namespace Go.Proofs.YtbpednchkndocaaGreatDoor.Av
namespace Bl
open Go Bt Tc Wr
attribute [local irreducible] aa ACalls
variable {gl:List (Nat×List D)}
def frm (b:Bool):Nat:=if b=true then 1 else 0
def JJ (b:Bool) (dc:Int):Bool:=if b=true then decide (1≤dc∧dc≤254) else decide (dc=0)
def fQ (b:Bool) (dc:Int) (l:List Ev):Bool:=(lev l (frm b)).isSome&&JJ b dc
def zV (b:Bool) (dc:Int):List UInt8:=if b=true then bL (if dc=128 then 255 else dc) 8 8 else []
def kL (b:Bool) (dc:Int) (l:List Ev):List UInt8:=zV b dc++l.flatMap qc
theorem ut:∀(l:List Ev) (a:Nat) (out r:List Int),rS l a out=some r→r.length=out.length∧(∀e∈l,evR e=true)∧(l=[]∨a+l.length≤64)
 |[],a,out,r,h=>by rw[zF]at h;cases h;simp
 |e::l,a,out,r,h=>by
  rw[qK]at h
  split at h
  ·rename_i hc
   obtain⟨h1,h2,h3⟩:=ut l _ _ r h
   refine⟨by rw[h1,List.length_set],fun x hx=>?_, .inr ?_⟩
   ·rcases List.mem_cons.1 hx with rfl|hx
    ·exact hc.1
    ·exact h2 x hx
   ·rcases h3 with rfl|h3
    ·simp only[List.length_cons,List.length_nil];omega
    ·simp only[List.length_cons];omega
  ·cases h
theorem Ec {l:List Ev} {a:Nat} {out:List Int} (h:lev l a=some out):out.length=64∧(∀e∈l,evR e=true)∧l.length≤64:=by
 obtain⟨h1,h2,h3⟩:=ut l a z64 out h
 refine⟨h1,h2,?_⟩
 rcases h3 with rfl|h3
 ·simp
 ·omega
theorem LY (b:Bool):ACalls (cxg gl) 247 [B b] [] (fun r H=>r=I (frm b:Nat)∧H=[]):=by
 cases b
 all_goals
  refine ACalls.en Tryz.func247 Tryz.ntmps247 ?_
  repeat' (first|intro _|refine aa.bA ?_)
  all_goals first|exact⟨rfl,rfl⟩
theorem IR (b:Bool):ACalls (cxg gl) 205 [B b] [] (fun r H=>r=I (frm b:Nat)∧H=[]):=by
 cases b
 all_goals
  refine ACalls.en Tryz.func205 Tryz.ntmps205 ?_
  repeat' (first|intro _|refine aa.bA ?_)
  all_goals first|exact⟨rfl,rfl⟩
attribute [local irreducible] bB rS evR lev qc bL
end Bl
namespace Bl
open Go Bt Tc Wr
attribute [local irreducible] aa ACalls
variable {gl:List (Nat×List D)}
theorem EC {b:Bool} {dc:Int} {l:List Ev} (h:fQ b dc l=true):(∀e∈l,evR e=true)∧l.length≤64∧JJ b dc=true:=by
 unfold fQ at h
 rw[Bool.and_eq_true,Option.isSome_iff_exists]at h
 obtain⟨⟨out,ho⟩,hd⟩:=h
 obtain⟨_,h2,h3⟩:=Ec ho
 exact⟨h2,h3,hd⟩
attribute [local irreducible] bB rS evR lev qc bL fQ ba cn
end Bl
namespace Bl
open Go Bt Tc Wr
attribute [local irreducible] aa ACalls
variable {gl:List (Nat×List D)}
attribute [local irreducible] bB rS evR lev qc bL
attribute [local irreducible] fQ
end Bl
end Go.Proofs.YtbpednchkndocaaGreatDoor.Av
