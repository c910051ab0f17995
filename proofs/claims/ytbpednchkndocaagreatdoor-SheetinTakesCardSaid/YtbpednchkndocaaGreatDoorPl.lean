/- Blocks: what may be one, and its row: both programs. Blocks: Put, and the reference's May and Row. Blocks: the reference's May and Row. -/
import Derived.Test.YtbpednchkndocaaGreatDoorPt2
import Derived.Test.YtbpednchkndocaaGreatDoorPw
set_option linter.unusedVariables false
set_option linter.unusedSimpArgs false
set_option maxRecDepth 100000
set_option maxHeartbeats 64000000
namespace Go.Proofs.YtbpednchkndocaaGreatDoor.Av
namespace Bl
open Go Bt Tc Wr
attribute [local irreducible] aa ACalls
variable {gl:List (Nat×List D)}
def frm (b:Bool):Nat:=if b=true then 1 else 0
def JM (b:Bool) (dc:Int):Bool:=if b=true then decide (1≤dc∧dc≤254) else decide (dc=0)
def gV (b:Bool) (dc:Int) (l:List Ev):Bool:=(lev l (frm b)).isSome&&JM b dc
def Ay (b:Bool) (dc:Int):List UInt8:=if b=true then cH (if dc=128 then 255 else dc) 8 8 else []
def lL (b:Bool) (dc:Int) (l:List Ev):List UInt8:=Ay b dc++l.flatMap qM
theorem uU:∀(l:List Ev) (a:Nat) (out r:List Int),sV l a out=some r→r.length=out.length∧(∀e∈l,evR e=true)∧(l=[]∨a+l.length≤64)
 |[],a,out,r,h=>by rw[Ad]at h;cases h;simp
 |e::l,a,out,r,h=>by
  rw[rJ]at h
  split at h
  ·rename_i hc
   obtain⟨h1,h2,h3⟩:=uU l _ _ r h
   refine⟨by rw[h1,List.length_set],fun x hx=>?_, .inr ?_⟩
   ·rcases List.mem_cons.1 hx with rfl|hx
    ·exact hc.1
    ·exact h2 x hx
   ·rcases h3 with rfl|h3
    ·simp only[List.length_cons,List.length_nil];omega
    ·simp only[List.length_cons];omega
  ·cases h
theorem Et {l:List Ev} {a:Nat} {out:List Int} (h:lev l a=some out):out.length=64∧(∀e∈l,evR e=true)∧l.length≤64:=by
 obtain⟨h1,h2,h3⟩:=uU l a z64 out h
 refine⟨h1,h2,?_⟩
 rcases h3 with rfl|h3
 ·simp
 ·omega
theorem LY (b:Bool):ACalls (cxg gl) 247 [B b] [] (fun r H=>r=I (frm b:Nat)∧H=[]):=by
 cases b
 all_goals
  refine ACalls.en Tryz.func247 Tryz.ntmps247 ?_
  repeat' (first|refine aa.aD ?_|refine aa.bh true ?_|refine aa.au ?_|refine aa.ai ?_|intro _|refine aa.av ?_)
  all_goals first|exact⟨rfl,rfl⟩
theorem I0 (b:Bool):ACalls (cxg gl) 205 [B b] [] (fun r H=>r=I (frm b:Nat)∧H=[]):=by
 cases b
 all_goals
  refine ACalls.en Tryz.func205 Tryz.ntmps205 ?_
  repeat' (first|refine aa.aD ?_|refine aa.bh true ?_|refine aa.au ?_|refine aa.ai ?_|intro _|refine aa.av ?_)
  all_goals first|exact⟨rfl,rfl⟩
attribute [local irreducible] cn sV evR lev qM cH
end Bl
namespace Bl
open Go Bt Tc Wr
attribute [local irreducible] aa ACalls
variable {gl:List (Nat×List D)}
theorem ET {b:Bool} {dc:Int} {l:List Ev} (h:gV b dc l=true):(∀e∈l,evR e=true)∧l.length≤64∧JM b dc=true:=by
 unfold gV at h
 rw[Bool.and_eq_true,Option.isSome_iff_exists]at h
 obtain⟨⟨out,ho⟩,hd⟩:=h
 obtain⟨_,h2,h3⟩:=Et ho
 exact⟨h2,h3,hd⟩
attribute [local irreducible] cn sV evR lev qM cH gV bO dx
end Bl
namespace Bl
open Go Bt Tc Wr
attribute [local irreducible] aa ACalls
variable {gl:List (Nat×List D)}
attribute [local irreducible] cn sV evR lev qM cH
attribute [local irreducible] gV
end Bl
end Go.Proofs.YtbpednchkndocaaGreatDoor.Av
