/- mcbpc: table, Take. mcbpc: the reference's Row; the rows. -/
import Derived.Test.YtbpednchkndocaaGreatDoorCo1
import Derived.Test.YtbpednchkndocaaGreatDoorPq4
set_option linter.unusedVariables false
set_option linter.unusedSimpArgs false
set_option maxRecDepth 100000
set_option maxHeartbeats 64000000
namespace Go.Proofs.YtbpednchkndocaaGreatDoor.Av
namespace Mb
open Go Bt Px
attribute [local irreducible] aa ACalls
variable {gl:List (Nat×List D)}
def mL (b:Bool) (k:Nat):List (List UInt8×Int):=(fg b k).zipIdx.map fun x=>(x.1,10*(k:Int)+(x.2:Int))
def Jf (b:Bool):Nat→List D
 |0=>[]
 |k+1=>Jf b k++aT (mL b k)
def iT (b:Bool):List (List UInt8×Int):=mL b 0++mL b 1++mL b 2++mL b 3++mL b 4++mL b 5
theorem Gp (b:Bool):Jf b 6=aT (iT b):=by cases b<;>rfl
theorem Je:∀b:Bool,∀k:_root_.Fin 6,(Jf b k.val).length≤30:=by decide +kernel
theorem Mf (b:Bool) (k:Nat) (hk:k≤5) (es:List D) (he:es.length≤1000):ACalls (cxg gsp) 313 [I k, .ptr 0 0, .ptr 1 0] [.cells [B b], .cells [.ms 2 es.length], .arr 321 2 es]
  (fun r H=>r = .aX []∧H=[.cells [B b], .cells [.ms 2 (es++aT (mL b k)).length], .arr 321 2 (es++aT (mL b k))]):=by
 have r1:=BU (gl:=gsp) b k
 have f1:=zB b k
 unfold dS at f1
 rcases (show k=0∨k=1∨k=2∨k=3∨k=4∨k=5 by omega)with rfl|rfl|rfl|rfl|rfl|rfl
 all_goals cases b
 all_goals
  refine ACalls.en Tryz.func313 Tryz.ntmps313 ?_
  repeat' (first|(apply aa.q true;rfl;rfl;rfl;rfl;first|exact True.intro|omega|(simp only[tn,Int.reduceToNat];omega)|(decide))|refine aa.ah [] ( f1) ?_|refine aa.ae (r1) ?_|(apply aa.kN;(iterate 11 rfl);(first|rfl|(simp only[List.length_append,List.length_map,List.length_set,List.length_replicate,List.length_cons,List.length_nil];omega)|(decide));(first|(simp only[List.length_append,List.length_map,List.length_cons,List.length_nil];omega)|(decide));simp only[List.set_cons_zero,List.set_cons_succ])|apply aa.bO|apply aa.lpU|intro _|refine aa.bA ?_)
  all_goals first|exact⟨rfl,rfl⟩|exact⟨rfl,by simp only[List.append_assoc];rfl⟩|exact⟨rfl,by rw[show aT (mL _ _)=([]:List D) from rfl,List.append_nil];rfl⟩
def mbT (b:Bool):Tb:=(mk (iT b) tb0).getD tb0
theorem Gs (b:Bool):mk (iT b) tb0=some (mbT b):=by
 have:(mk (iT b) tb0).isSome=true:=by cases b<;>decide +kernel
 unfold mbT
 cases h:mk (iT b) tb0 with
 |none=>rw[h]at this;cases this
 |some T=>rfl
theorem Bh (b:Bool):rU (mbT b) (iT b):=Gf (Gs b)
def mb0 (b:Bool):List UInt8×Int:=(iT b).getD 0 ([],0)
theorem LM (b:Bool):(iT b)[0]?=some (mb0 b):=by cases b<;>rfl
theorem Gv (b:Bool):(iT b).length≤256:=by cases b<;>decide
theorem Bj (b:Bool):∀p∈iT b,p.1.length≤1000000:=by cases b<;>decide
def Io (b:Bool):List au:=[.cells [B b], .cells [.ms 2 (aT (iT b)).length], .front 321 2 (aT (iT b)).length, .map (bG (mbT b).sym), .map (dJ (mbT b).rws), .map (bG (mbT b).beg),
 .cells [.own 2 (aT (mbT b).codes) 9, .mp 3, .mp 4, .mp 5,I (mbT b).lng], .cells (vZ (mb0 b)), .cells (vZ (mb0 b)), .front 321 2 (aT (mbT b).codes).length]
attribute [local irreducible] bG dJ aT mbT mL iT mb0
theorem D8 (b:Bool):ACalls (cxg gsp) 304 [B b] [] (fun r H=>r = .ptr 6 0∧H=Io b):=by
 have mk:=CB (gl:=gsp) (iT b) (mb0 b) (mbT b) (LM b) (Gv b) (Bj b) (Gs b)
 rw[←Gp]at mk
 unfold Io
 rw[←Gp]
 have e:=fun (k:_root_.Fin 6)=>Mf b k.val (by omega) (Jf b k.val) (by have:=Je b k;omega)
 have e0:=e 0
 have e1:=e 1
 have e2:=e 2
 have e3:=e 3
 have e4:=e 4
 have e5:=e 5
 unfold Dw at mk
 refine ACalls.en Tryz.func304 Tryz.ntmps304 ?_
 repeat' (first|refine aa.bN true ?_|refine aa.ah [0,1,2] ( e0) ?_|refine aa.ah [0,1,2] ( e1) ?_|refine aa.ah [0,1,2] ( e2) ?_|refine aa.ah [0,1,2] ( e3) ?_|refine aa.ah [0,1,2] ( e4) ?_|refine aa.ah [0,1,2] ( e5) ?_|refine aa.zY [] ( mk) ?_|refine aa.GU 1 0 321 2 ?_|refine aa.ll 17 ?_|apply aa.bO|apply aa.lpU|intro _|refine aa.bA ?_)
 (apply aa.wV 10;rfl;rfl;rfl;rfl;rfl)
 exact⟨rfl,rfl⟩
def gL (b:Bool):List (List UInt8):=(iT b).map (·.1)
def mbX (b:Bool) (Dg:List UInt8):Int×Int×Int×Nat :=
  if (bV (gL b) Dg []).2.1=0 then
    (if ((bV (gL b) Dg []).1+(if b=true then 0 else 12)) / 4=2 then (0,0,6,0)
     else (((bV (gL b) Dg []).1+(if b=true then 0 else 12)) / 4,((bV (gL b) Dg []).1+(if b=true then 0 else 12))%4,0,(bV (gL b) Dg []).2.2))
  else (0,0,(bV (gL b) Dg []).2.1,0)
def oz (p:Nat) (x:Int×Int×Int×Nat):Nat:=if x.2.2.1=0 then p+x.2.2.2 else p
theorem mK (b:Bool):(gL b).length=if b=true then 21 else 9:=by unfold gL iT;cases b<;>decide +kernel
theorem LK (b:Bool) (i:Int) (h:0≤i∧i<(gL b).length):(0≤kE (mbT b) i∧kE (mbT b) i≤60)∧kE (mbT b) i / 10=(i+(if b=true then 0 else 12)) / 4∧kE (mbT b) i%10=(i+(if b=true then 0 else 12))%4:=by
 rw[mK]at h
 have hs:kE (mbT b) i=((iT b).getD i.toNat ([],0)).2:=by unfold kE;rw[(Bh b).codes]
 rw[hs]
 obtain⟨n,rfl⟩:=Int.eq_ofNat_of_zero_le h.1
 rw[Int.toNat_natCast]
 cases b with
 |true =>
  have key:∀i:_root_.Fin 21,(0≤((iT true).getD i.val ([],0)).2∧((iT true).getD i.val ([],0)).2≤60)∧((iT true).getD i.val ([],0)).2 / 10=((i.val:Int)+0) / 4∧((iT true).getD i.val ([],0)).2%10=((i.val:Int)+0)%4:=by unfold iT;decide +kernel
  exact key ⟨n,by simp only[if_true]at h;omega⟩
 |false =>
  have key:∀i:_root_.Fin 9,(0≤((iT false).getD i.val ([],0)).2∧((iT false).getD i.val ([],0)).2≤60)∧((iT false).getD i.val ([],0)).2 / 10=((i.val:Int)+12) / 4∧((iT false).getD i.val ([],0)).2%10=((i.val:Int)+12)%4:=by unfold iT;decide +kernel
  exact key ⟨n,by simp only[Bool.false_eq_true,if_false]at h;omega⟩
theorem tT (rows:List (List UInt8)):∀(D w:List UInt8),(bV rows D w).2.1=0∨(bV rows D w).2.1=2∨(bV rows D w).2.1=3
 |[],w=>by simp[bV]
 |x::r,w=>by
  rw[bV]
  cases gN rows w x with
  |done i c=>simp
  |fail=>simp
  |next w'=>exact tT rows r w'
attribute [local irreducible] af pF gL Io
theorem Gn (b:Bool) (s:List UInt8) (p:Nat) (hs:s.length≤1000000) (hp:p≤8*s.length):ACalls (cxg gsp) 291 [.ptr 0 0,B b] [Rd s p]
  (fun r H=>r = .aX [I (mbX b ((af s p).map aY)).1,I (mbX b ((af s p).map aY)).2.1,I (mbX b ((af s p).map aY)).2.2.1]∧H=[Rd s (oz p (mbX b ((af s p).map aY)))]):=by
 have tb:=D8 b
 have a0:=qw (gl:=gsp) s p
 have tt:=BJ (gl:=gsp) (mbT b) s p hs hp (Bh b).Ka
 rw[oq (Bh b),show (iT b).map (·.1)=gL b by unfold gL;rfl]at tt
 have he:=tT (gL b) ((af s p).map aY) []
 have hb:=ib (gL b) ((af s p).map aY) []
 unfold mbX
 generalize bV (gL b) ((af s p).map aY) []=y at *
 obtain⟨i,e,c⟩:=y
 simp only at he hb tt ⊢
 unfold Io at tb
 by_cases h0:e=0
 ·obtain⟨hs0,hs1,hs2⟩:=LK b i (hb h0)
  rw[if_pos h0]at tt
  rw[if_pos h0,←hs1,←hs2]
  generalize kE (mbT b) i=sy at *
  subst h0
  unfold pF at tt
  simp only[if_true]at tt
  by_cases h2:sy / 10=2
  ·rw[if_pos h2]
   have sk:=ed (gl:=gsp) s ((p+c:Nat):Int) p (by omega) ⟨by omega,by omega⟩
   refine ACalls.en Tryz.func291 Tryz.ntmps291 ?_
   repeat' (first|refine aa.ah [0] ( a0) ?_|refine aa.ah [] ( tb) ?_|refine aa.ah [4,5,6,7,0,10] ( tt) ?_|refine aa.ah [0] ( sk) ?_|intro _|refine aa.bA ?_)
   all_goals first|exact⟨rfl,rfl⟩
  ·rw[if_neg h2]
   unfold oz
   simp only[if_true]
   refine ACalls.en Tryz.func291 Tryz.ntmps291 ?_
   repeat' (first|refine aa.ah [0] ( a0) ?_|refine aa.ah [] ( tb) ?_|refine aa.ah [4,5,6,7,0,10] ( tt) ?_|intro _|refine aa.bA ?_)
   all_goals first|exact⟨rfl,rfl⟩
 ·rw[if_neg h0]
  rw[if_neg h0]at tt
  unfold oz
  unfold pF at tt
  simp only[if_neg h0]at tt ⊢
  refine ACalls.en Tryz.func291 Tryz.ntmps291 ?_
  repeat' (first|refine aa.ah [0] ( a0) ?_|refine aa.ah [] ( tb) ?_|refine aa.ah [4,5,6,7,0,10] ( tt) ?_|intro _|refine aa.bA ?_)
  all_goals first|exact⟨rfl,rfl⟩
end Mb
section
open Go
end
namespace Mb
open Go Bt
attribute [local irreducible] aa ACalls
variable {gl:List (Nat×List D)}
def xy (b:Bool):List (List UInt8):=if b=true then wdI.flatten else List.replicate 12 []++wdJ.flatten
theorem FE (b:Bool):ACalls (cxg gl) 237 [B b] [] (fun r H=>r = .d (.sl 1 (aS (xy b)))∧H=[]):=by
 cases b
 all_goals
  unfold aS xy
  refine ACalls.en Tryz.func237 Tryz.ntmps237 ?_
  repeat' (first|intro _|refine aa.bA ?_)
  all_goals first|exact⟨rfl,rfl⟩
theorem zw:∀b:Bool,∀k:_root_.Fin 6,(fg b k.val).length≤4∧(k.val=5→(fg b k.val).length≤1):=by unfold fg;decide +kernel
theorem sI (b:Bool) (k c:Int) (h:lc b k c=true):(0≤k∧k≤5)∧0≤c∧c≤3:=by
 unfold lc at h
 rw[decide_eq_true_eq]at h
 by_cases hk:k<0∨5<k
 ·have:fg b k=[]:=by unfold fg;rw[if_pos hk]
  rw[this]at h;simp at h;omega
 ·obtain⟨h1,h2⟩:=zw b ⟨k.toNat,by omega⟩
  simp only at h1
  rw[show ((k.toNat:Nat):Int)=k by omega]at h1
  omega
theorem Gt:∀b:Bool,∀k:_root_.Fin 6,∀c:_root_.Fin 4,lc b k.val c.val=true→eO b k.val c.val≠[]∧(eO b k.val c.val).length≤9∧(eO b k.val c.val).all bC=true:=by decide +kernel
theorem pO (b:Bool) (k c:Int) (h:lc b k c=true):eO b k c≠[]∧(eO b k c).length≤9∧(eO b k c).all bC=true:=by
 obtain⟨hk,hc⟩:=sI b k c h
 have:=Gt b ⟨k.toNat,by omega⟩ ⟨c.toNat,by omega⟩
 simp only at this
 rw[show ((k.toNat:Nat):Int)=k by omega,show ((c.toNat:Nat):Int)=c by omega]at this
 exact this h
attribute [local irreducible] aS xy eO
end Mb
end Go.Proofs.YtbpednchkndocaaGreatDoor.Av
