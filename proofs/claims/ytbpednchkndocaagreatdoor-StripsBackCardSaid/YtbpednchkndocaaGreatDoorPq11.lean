/- mcbpc: the reference's Take. The laws of mcbpc. -/
import Derived.Test.YtbpednchkndocaaGreatDoorPq4
set_option linter.unusedVariables false
set_option linter.unusedSimpArgs false
set_option maxRecDepth 100000
set_option maxHeartbeats 64000000
namespace Go.Proofs.YtbpednchkndocaaGreatDoor.Av
namespace Mb
open Go Bt Px
attribute [local irreducible] aa ACalls
variable {gl:List (Nat×List D)}
theorem CE(b:Bool):lq b=if b=true then wdI.flatten else wdJ.flatten:=by unfold lq;cases b<;>decide +kernel
attribute [local irreducible] mbX D9
end Mb
namespace Mb
open Go Bt Px
attribute [local irreducible] aa ACalls
variable {gl:List (Nat×List D)}
theorem Nh(b:Bool)(Dg:List UInt8):mbX b Dg=(fun (y:Int×Int×Nat)=>if y.2.1=0 then
    (if (y.1 + (if b = true then 0 else 12)) / 4 = 2 then ((0 : Int), (0 : Int), (6 : Int), 0)
     else ((y.1+(if b=true then 0 else 12))/4,(y.1+(if b=true then 0 else 12))%4,0,y.2.2))
  else (0,0,y.2.1,0)) (dB (if b=true then wdI.flatten else wdJ.flatten) Dg []):=by unfold mbX;rw[CE]
theorem Nc:∀(i:Nat),i<21→∀R,dB wdI.flatten (wdI.flatten.getD i []++R) []=((i:Int),0,(wdI.flatten.getD i []).length)
 |0,_,R=>rfl
 |1,_,R=>rfl
 |2,_,R=>rfl
 |3,_,R=>rfl
 |4,_,R=>rfl
 |5,_,R=>rfl
 |6,_,R=>rfl
 |7,_,R=>rfl
 |8,_,R=>rfl
 |9,_,R=>rfl
 |10,_,R=>rfl
 |11,_,R=>rfl
 |12,_,R=>rfl
 |13,_,R=>rfl
 |14,_,R=>rfl
 |15,_,R=>rfl
 |16,_,R=>rfl
 |17,_,R=>rfl
 |18,_,R=>rfl
 |19,_,R=>rfl
 |20,_,R=>rfl
 |n+21,h,_=>absurd h (by omega)
theorem Nb:∀(i:Nat),i<9→∀R,dB wdJ.flatten (wdJ.flatten.getD i []++R) []=((i:Int),0,(wdJ.flatten.getD i []).length)
 |0,_,R=>rfl
 |1,_,R=>rfl
 |2,_,R=>rfl
 |3,_,R=>rfl
 |4,_,R=>rfl
 |5,_,R=>rfl
 |6,_,R=>rfl
 |7,_,R=>rfl
 |8,_,R=>rfl
 |n+9,h,_=>absurd h (by omega)
theorem J0:∀k:_root_.Fin 6,∀c:_root_.Fin 4,(lu true k.val c.val=true→4*k.val+c.val<21∧eD true k.val c.val=wdI.flatten.getD (4*k.val+c.val) []) ∧
  (lu false k.val c.val=true→12≤4*k.val+c.val∧4*k.val+c.val<21∧eD false k.val c.val=wdJ.flatten.getD (4*k.val+c.val-12) []):=by decide +kernel
theorem Ng(b:Bool)(k c:Int)(h:lu b k c=true)(R:List UInt8):mbX b (eD b k c++R)=if k=2 then (0,0,6,0) else (k,c,0,(eD b k c).length):=by
 obtain⟨hk,hc⟩:=tq b k c h;obtain⟨h1,h2⟩:=J0 ⟨k.toNat,by omega⟩ ⟨c.toNat,by omega⟩;simp only at h1 h2;rw[show ((k.toNat:Nat):Int)=k by omega,show ((c.toNat:Nat):Int)=c by omega]at h1 h2;rw[Nh];cases b with
 |true =>
  obtain⟨a1,a2⟩:=h1 h;have:=Nc _ a1 R;rw[a2];simp only[if_true];rw[this];have e1:(((4*k.toNat+c.toNat:Nat):Int)+0)/4=k:=by omega
  have e2:(((4*k.toNat+c.toNat:Nat):Int)+0)%4=c:=by omega
  simp only[if_true,e1,e2]
 |false =>
  obtain⟨a0,a1,a2⟩:=h2 h;have:=Nb _ (show 4*k.toNat+c.toNat-12<9 by omega) R;rw[a2];simp only[Bool.false_eq_true,if_false];rw[this];have e1:(((4*k.toNat+c.toNat-12:Nat):Int)+12)/4=k:=by omega
  have e2:(((4*k.toNat+c.toNat-12:Nat):Int)+12)%4=c:=by omega
  simp only[if_true,e1,e2]
attribute [local irreducible] mbX aG D9 eD lu jw bJ
end Mb
end Go.Proofs.YtbpednchkndocaaGreatDoor.Av
