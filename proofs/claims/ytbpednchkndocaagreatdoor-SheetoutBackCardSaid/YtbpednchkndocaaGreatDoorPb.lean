/- Regions whose order is open; new objects, stores, slices made and appended to. New objects, stores, slices made and appended to. Slices that are written out. Calls with plain contracts; from a contract to the row's walk. Structs and arrays built. -/
import Derived.Test.YtbpednchkndocaaGreatDoorPa
import Derived.DataShut
set_option linter.unusedVariables false
set_option linter.unusedSimpArgs false
set_option maxRecDepth 100000
set_option maxHeartbeats 64000000
namespace Go.Proofs.YtbpednchkndocaaGreatDoor.Av
section
open Go Go.RowKit
section
variable {Γ:Ctx}{nt n0:Nat}{k:List It}{Q:Post}{env:Env}{H:List aN}{G:aO}{w w':World}
theorem bM.below(hW:bM Γ.gl G H w)(hb:Below w.heap.size w w'):bM Γ.gl G H w':=by
 refine⟨hb.os.trans hW.os,hb.tape.trans hW.tape,hb.output.trans hW.output,Nat.le_trans hW.size hb.size,fun b h1 h2=>?_,fun b i hi=>?_,fun id o ho=>?_,hW.own,hW.inj,hW.lim,hW.glob⟩
 ·obtain⟨e1,e2⟩:=hW.old b h1 h2;exact⟨(hb.block b (Nat.lt_of_lt_of_le h1 hW.size)).trans e1,e2⟩
 ·have:=hW.imm b i hi;rw[hb.cell (p:=⟨b,i,none⟩) (World.block_lt_of_cell? w _ this)];exact this
 ·exact mJ.keep (GLe.refl H.length G) (aI ho) hW.lim (hW.obj id o ho) (fun b hob=>⟨hb.block b ((hW.obj id o ho).lt hob),rfl⟩) (fun _=>rfl)
theorem aa.draw{id:Nat}{all:Array Oper}(l:List Oper)(hl:all=l.toArray)(hB:Region.lexB .any l.toArray=true)(h:aa Γ nt n0 (.qops all l::k) Q env H):
  aa Γ nt n0 (.code (.region id all true)::k) Q env H :=
 fun G0 G a w h0 hln hF hd hW=>by
  subst hl;have hdrew:Below w.heap.size w { w with drawn:=w.drawn+1 }:=⟨rfl,rfl,rfl,Nat.le_refl _,fun _ _=>rfl⟩;have hd1:∀w',Below w.heap.size w w'↔Below ({ w with drawn:=w.drawn+1 }:World).heap.size { w with drawn:=w.drawn+1 } w':=fun w' =>
   ⟨fun h=>⟨h.os,h.tape,h.output,h.size,h.block⟩,fun h=>⟨h.os,h.tape,h.output,h.size,h.block⟩⟩
  have:=h G0 G a w h0 hln hF hd hW;simp only[aZ]at this ⊢;exact wp_region_quiet (C:=fun w'=>Below w.heap.size w w') Γ.mixed hB hdrew (by simpa using this)
theorem aa.SX{all:Array Oper}(h:aa Γ nt n0 k Q env H):aa Γ nt n0 (.qops all []::k) Q env H :=
 fun G0 G a w h0 hl hF hd hW=>by
  simp only[aZ];exact wpQuiet_nil fun w' hb=>h G0 G a w' h0 hl hF hd (hW.below hb)
theorem aa.qq{all:Array Oper}{o:Oper}{l:List Oper}(nn:Bool){t:Nat}{c:Prop}{v:AV}(hg:o.guard=none)(hd:o.dst=some t)(ht:Nat.ble (t+1) nt=true)
  (hq:qop Γ nn o.op env H=some (c,v)) (hc:c) (h:aa Γ nt n0 (.qops all l::k) Q ((t,v)::env) H):aa Γ nt n0 (.qops all (o::l)::k) Q env H :=
 fun G0 G a w h0 hl hF hdf hW=>by
  obtain⟨u,hu,hr⟩:=pU hW hF hq hc;have hn:=h G0 G (a.put (some t) u) w h0 hl (hF.put ht hu) (by simp[Act.put,hdf]) hW;simp only[aZ]at hn ⊢;unfold wpQuiet;rw[if_pos (ba hg)];refine⟨u,fun w' hb=>?_,by rw[hd];exact hn⟩;unfold Oper.quietAt;rw[hr w' hb];exact⟨rfl,rfl⟩
theorem aa.eP{all:Array Oper}{o:Oper}{l:List Oper}(nn:Bool){t:Nat}{c:Prop}{v:AV}(h:aa Γ nt n0 (.qops all l::k) Q ((t,v)::env) H)(hg:o.guard=none:=by rfl)(hd:o.dst=some t:=by rfl)(ht:Nat.ble (t+1) nt=true:=by rfl)(hq:qop Γ nn o.op env H=some (c,v):=by rfl)(hc:c:=by first|exact True.intro|omega|(simp only[tn,Int.reduceToNat];omega)):aa Γ nt n0 (.qops all (o::l)::k) Q env H:=aa.qq nn hg hd ht hq hc h
theorem aa.MK{all:Array Oper}{o:Oper}{l:List Oper}(nn:Bool){t:Nat}{c:Prop}{v:AV}(h:aa Γ nt n0 (.qops all l::k) Q ((t,v)::env) H)(hg:o.guard=none:=by rfl)(hd:o.dst=some t:=by rfl)(ht:Nat.ble (t+1) nt=true:=by rfl)(hq:qop Γ nn o.op env H=some (c,v):=by rfl)(hc:c:=by first|exact True.intro|omega|(simp only[tn,Int.reduceToNat];omega)|(simp only[fC,List.length_cons,List.length_nil];omega)):aa Γ nt n0 (.qops all (o::l)::k) Q env H:=aa.qq nn hg hd ht hq hc h
theorem aa.G9{all:Array Oper}{o:Oper}{l:List Oper}(nn:Bool){t:Nat}{c:Prop}{v:AV}(h:aa Γ nt n0 (.qops all l::k) Q ((t,v)::env) H)(hg:o.guard=none:=by rfl)(hd:o.dst=some t:=by rfl)(ht:Nat.ble (t+1) nt=true:=by rfl)(hq:qop Γ nn o.op env H=some (c,v):=by rfl)(hc:c:=by first|exact True.intro|omega|(simp only[tn,Int.reduceToNat];omega)|(refine⟨?_,?_⟩<;>omega)):aa Γ nt n0 (.qops all (o::l)::k) Q env H:=aa.qq nn hg hd ht hq hc h
theorem aa.MJ{all:Array Oper}{o:Oper}{l:List Oper}(nn:Bool){t:Nat}{c:Prop}{v:AV}(h:aa Γ nt n0 (.qops all l::k) Q ((t,v)::env) H)(hg:o.guard=none:=by rfl)(hd:o.dst=some t:=by rfl)(ht:Nat.ble (t+1) nt=true:=by rfl)(hq:qop Γ nn o.op env H=some (c,v):=by rfl)(hc:c:=by first|exact True.intro|omega|(simp only[tn,Int.reduceToNat];omega)|(rw[el,em];omega)):aa Γ nt n0 (.qops all (o::l)::k) Q env H:=aa.qq nn hg hd ht hq hc h
theorem aa.MI{all:Array Oper}{o:Oper}{l:List Oper}(nn:Bool){t:Nat}{c:Prop}{v:AV}(h:aa Γ nt n0 (.qops all l::k) Q ((t,v)::env) H)(hg:o.guard=none:=by rfl)(hd:o.dst=some t:=by rfl)(ht:Nat.ble (t+1) nt=true:=by rfl)(hq:qop Γ nn o.op env H=some (c,v):=by rfl)(hc:c:=by first|exact True.intro|omega|(simp only[tn,Int.reduceToNat];omega)|(rw[el];omega)|(rw[em];omega)):aa Γ nt n0 (.qops all (o::l)::k) Q env H:=aa.qq nn hg hd ht hq hc h
theorem aa.Rv{all:Array Oper}{o:Oper}{l:List Oper}(nn:Bool){t:Nat}{c:Prop}{v:AV}(h:aa Γ nt n0 (.qops all l::k) Q ((t,v)::env) H)(hg:o.guard=none:=by rfl)(hd:o.dst=some t:=by rfl)(ht:Nat.ble (t+1) nt=true:=by rfl)(hq:qop Γ nn o.op env H=some (c,v):=by rfl)(hc:c:=by first|exact True.intro|omega|(simp only[tn,Int.reduceToNat];omega)|(rw[el];omega)):aa Γ nt n0 (.qops all (o::l)::k) Q env H:=aa.qq nn hg hd ht hq hc h
theorem aa.PD{all:Array Oper}{o:Oper}{l:List Oper}(nn:Bool){t:Nat}{c:Prop}{v:AV}(h:aa Γ nt n0 (.qops all l::k) Q ((t,v)::env) H)(hg:o.guard=none:=by rfl)(hd:o.dst=some t:=by rfl)(ht:Nat.ble (t+1) nt=true:=by rfl)(hq:qop Γ nn o.op env H=some (c,v):=by rfl)(hc:c:=by first|exact True.intro|omega|(simp only[tn,Int.reduceToNat];omega)|(rw[hn];omega)):aa Γ nt n0 (.qops all (o::l)::k) Q env H:=aa.qq nn hg hd ht hq hc h
def Eo:Op→Bool
 | .store .. | .makeSlice .. | .makeMap .. | .alloc .. | .box .. | .mapUpdate .. | .mapEntry .. | .entryStore .. | .buildSlice .. => true
 | .call c=>match c.callee with | .builtin .len | .builtin .max | .builtin .min=>false|_=>true
 |_=>false
def Gg:Op→Bool
 | .call c=>match c.callee with | .builtin .len | .builtin .max | .builtin .min=>false | .builtin _=>true|_=>false
 |op=>Eo op
def jS:List Oper→Option (List Oper×List Oper)
 |[]=>none
 |o::l=>bif Eo o.op then some ([],o::l) else match jS l with|some (x,y)=>some (o::x,y)|none=>none
theorem lS:∀{l x y:List Oper},jS l=some (x,y)→l=x++y
 |[],_,_,h=>by simp[jS]at h
 | o :: l, x, y, h => by
  simp only[jS]at h;cases hb:Eo o.op with
  |true=>rw[hb]at h;cases h;rfl
  | false =>
   rw[hb,cond_false]at h;split at h
   ·rename_i x' y' hx;cases h;rw[lS hx];rfl
   ·cases h
theorem aa.Sl{id:Nat}{all:Array Oper}(l:List Oper){l1 l2:List Oper}(hl:all=l.toArray)(_he:l.any (fun o=>Gg o.op)=true)(hs:jS l=some (l1,l2))(hB:Region.lexTailB .any l.toArray l1.length=true)(h:aa Γ nt n0 (.sops all l1 :: .ops all l2::k) Q env H):
  aa Γ nt n0 (.code (.region id all true)::k) Q env H :=
 fun G0 G a w h0 hln hF hd hW=>by
  subst hl;have hW':bM Γ.gl G H { w with drawn:=w.drawn+1 }:=hW.same rfl rfl rfl rfl;have:=h G0 G a { w with drawn:=w.drawn+1 } h0 hln hF hd hW';simp only[aZ]at this ⊢;have e:=lS hs;refine wp_region_still_tail l1.length Γ.mixed hB ?_;have e1:l.take l1.length=l1:=by rw[e];exact List.take_left
  have e2:l.drop l1.length=l2:=by rw[e];exact List.drop_left
  rw[e1,e2];exact this
theorem aa.cE{id:Nat}{all:Array Oper}{l:List Oper}{l1 l2:List Oper}(h:aa Γ nt n0 (.sops all l1 :: .ops all l2::k) Q env H)(hl:all=l.toArray:=by rfl)(_he:l.any (fun o=>Gg o.op)=true:=by rfl)(hs:jS l=some (l1,l2):=by rfl)(hB:Region.lexTailB .any l.toArray l1.length=true:=by decide +kernel):aa Γ nt n0 (.code (.region id all true)::k) Q env H:=aa.Sl l hl _he hs hB h
theorem aa.SU{all:Array Oper}(h:aa Γ nt n0 k Q env H):aa Γ nt n0 (.sops all []::k) Q env H :=
 fun G0 G a w h0 hl hF hd hW=>by
  simp only[aZ];exact wpStill_nil (h G0 G a w h0 hl hF hd hW)
theorem aa.sq{all:Array Oper}{o:Oper}{l:List Oper}(nn:Bool){t:Nat}{c:Prop}{v:AV}(hg:o.guard=none)(hd:o.dst=some t)(ht:Nat.ble (t+1) nt=true)
  (hq:qop Γ nn o.op env H=some (c,v)) (hc:c) (h:aa Γ nt n0 (.sops all l::k) Q ((t,v)::env) H):aa Γ nt n0 (.sops all (o::l)::k) Q env H :=
 fun G0 G a w h0 hl hF hdf hW=>by
  obtain⟨u,hu,hr⟩:=pU hW hF hq hc;have hn:=h G0 G (a.put (some t) u) w h0 hl (hF.put ht hu) (by simp[Act.put,hdf]) hW;simp only[aZ]at hn ⊢;unfold wpStill;rw[if_pos (ba hg)];unfold Oper.still;rw[hr w (Below.refl _ _),Oper.stillUpon_value,hd];exact hn
theorem aa.iU{all:Array Oper}{o:Oper}{l:List Oper}(nn:Bool){t:Nat}{c:Prop}{v:AV}(h:aa Γ nt n0 (.sops all l::k) Q ((t,v)::env) H)(hg:o.guard=none:=by rfl)(hd:o.dst=some t:=by rfl)(ht:Nat.ble (t+1) nt=true:=by rfl)(hq:qop Γ nn o.op env H=some (c,v):=by rfl)(hc:c:=by first|exact True.intro|omega|(simp only[tn,Int.reduceToNat];omega)):aa Γ nt n0 (.sops all (o::l)::k) Q env H:=aa.sq nn hg hd ht hq hc h
theorem aa.Ml{all:Array Oper}{o:Oper}{l:List Oper}(nn:Bool){t:Nat}{c:Prop}{v:AV}(h:aa Γ nt n0 (.sops all l::k) Q ((t,v)::env) H)(hg:o.guard=none:=by rfl)(hd:o.dst=some t:=by rfl)(ht:Nat.ble (t+1) nt=true:=by rfl)(hq:qop Γ nn o.op env H=some (c,v):=by rfl)(hc:c:=by first|exact True.intro|omega|(simp only[tn,Int.reduceToNat];omega)|(simp only[fC,List.length_cons,List.length_nil];omega)):aa Γ nt n0 (.sops all (o::l)::k) Q env H:=aa.sq nn hg hd ht hq hc h
def bL(all:Array Oper)(env:Env)(o:Oper):Option Bool :=
 match o.guard with
 |none=>some true
 | some (j, want) => match (all[j]?).bind (·.dst) with
  |some t=>match env.get t with
   | .d (.bool b)=>some (b==want)
   | .cH []=>some false
   |_=>none
  |none=>none
theorem bQ{all:Array Oper}{o:Oper}{b:Bool}{tmps:Array Value}(hF:df G nt tmps env)(h:bL all env o=some b):Region.wanted o (yielded all tmps)=b:=by
 unfold bL at h;split at h
 ·rename_i hg;cases h;exact ba hg
 ·rename_i j want hg;split at h
  ·rename_i t ht;split at h
   ·rename_i b' hb;cases h;have:=hF.rel t;rw[hb]at this;have hv:=this.fT;have hlt:t<tmps.size:=by
     rcases Nat.lt_or_ge t tmps.size with h|h
     ·exact h
     ·simp[Array.getD,Nat.not_lt.2 h,undef]at hv
    have e:tmps[t]?=some (.bool b'):=by simpa[Array.getD,hlt]using hv
    simp[Region.wanted,hg,yielded,ht,e]
   ·rename_i hb;cases h;have:=hF.rel t;rw[hb]at this;have hv:tmps.getD t undef = .tuple #[]:=by
     generalize tmps.getD t undef=v at this;cases this with
     |cH vs _ hl _ =>
      have:vs=#[]:=Array.eq_empty_of_size_eq_zero (by simpa using hl);rw[this]
    rcases Nat.lt_or_ge t tmps.size with hlt|hlt
    ·have e:tmps[t]?=some (.tuple #[]):=by simpa[Array.getD,hlt]using hv
     simp[Region.wanted,hg,yielded,ht,e]
    ·have e:tmps[t]?=none:=by simp[hlt]
     simp[Region.wanted,hg,yielded,ht,e]
   ·cases h
  ·cases h
theorem iF{G:aO}:bA G undef (.cH []) := .cH #[] [] rfl fun i c h=>by simp at h
theorem aa.Pn{all:Array Oper}{o:Oper}{l:List Oper}{t:Nat}(hw:bL all env o=some false)(hd:o.dst=some t)(ht:Nat.ble (t+1) nt=true)
  (h:aa Γ nt n0 (.ops all l::k) Q ((t, .cH [])::env) H):aa Γ nt n0 (.ops all (o::l)::k) Q env H :=
 fun G0 G a w h0 hl hF hdf hW=>by
  have hn:=h G0 G (a.put (some t) undef) w h0 hl (hF.put ht iF) (by simp[Act.put,hdf]) hW;simp only[aZ]at hn ⊢;unfold wpList;rw[bQ hF hw,hd];exact hn
theorem aa.aC{all:Array Oper}{o:Oper}{l:List Oper}{t:Nat}(h:aa Γ nt n0 (.ops all l::k) Q ((t, .cH [])::env) H)(hw:bL all env o=some false:=by rfl)(hd:o.dst=some t:=by rfl)(ht:Nat.ble (t+1) nt=true:=by rfl):aa Γ nt n0 (.ops all (o::l)::k) Q env H:=aa.Pn hw hd ht h
theorem aa.MH{all:Array Oper}{o:Oper}{l:List Oper}{t:Nat}(hw:bL all env o=some false)(hd:o.dst=some t)(ht:Nat.ble (t+1) nt=true)
  (h:aa Γ nt n0 (.qops all l::k) Q ((t, .cH [])::env) H):aa Γ nt n0 (.qops all (o::l)::k) Q env H :=
 fun G0 G a w h0 hl hF hdf hW=>by
  have hn:=h G0 G (a.put (some t) undef) w h0 hl (hF.put ht iF) (by simp[Act.put,hdf]) hW;simp only[aZ]at hn ⊢;unfold wpQuiet;rw[bQ hF hw,hd];exact hn
theorem aa.iG{all:Array Oper}{o:Oper}{l:List Oper}{t:Nat}(h:aa Γ nt n0 (.qops all l::k) Q ((t, .cH [])::env) H)(hw:bL all env o=some false:=by rfl)(hd:o.dst=some t:=by rfl)(ht:Nat.ble (t+1) nt=true:=by rfl):aa Γ nt n0 (.qops all (o::l)::k) Q env H:=aa.MH hw hd ht h
theorem aa.Mj{all:Array Oper}{o:Oper}{l:List Oper}{t:Nat}(hw:bL all env o=some false)(hd:o.dst=some t)(ht:Nat.ble (t+1) nt=true)
  (h:aa Γ nt n0 (.sops all l::k) Q ((t, .cH [])::env) H):aa Γ nt n0 (.sops all (o::l)::k) Q env H :=
 fun G0 G a w h0 hl hF hdf hW=>by
  have hn:=h G0 G (a.put (some t) undef) w h0 hl (hF.put ht iF) (by simp[Act.put,hdf]) hW;simp only[aZ]at hn ⊢;unfold wpStill;rw[bQ hF hw,hd];exact hn
theorem aa.yD{all:Array Oper}{o:Oper}{l:List Oper}{t:Nat}(h:aa Γ nt n0 (.sops all l::k) Q ((t, .cH [])::env) H)(hw:bL all env o=some false:=by rfl)(hd:o.dst=some t:=by rfl)(ht:Nat.ble (t+1) nt=true:=by rfl):aa Γ nt n0 (.sops all (o::l)::k) Q env H:=aa.Mj hw hd ht h
theorem aa.IJ{all:Array Oper}{o:Oper}{l:List Oper}(hsome:o.guard.isSome=true)(hw:bL all env o=some true)(h:aa Γ nt n0 (.sops all ({ o with guard:=none }::l)::k) Q env H):
  aa Γ nt n0 (.sops all (o::l)::k) Q env H :=
 fun G0 G a w h0 hl hF hdf hW=>by
  have hn:=h G0 G a w h0 hl hF hdf hW;simp only[aZ]at hn ⊢;unfold wpStill at hn ⊢;rw[if_pos (ba rfl)]at hn;rw[if_pos (bQ hF hw)];exact hn
theorem aa.wL{all:Array Oper}{o:Oper}{l:List Oper}(h:aa Γ nt n0 (.sops all ({ o with guard:=none }::l)::k) Q env H)(hsome:o.guard.isSome=true:=by rfl)(hw:bL all env o=some true:=by rfl):aa Γ nt n0 (.sops all (o::l)::k) Q env H:=aa.IJ hsome hw h
theorem aa.LX{all:Array Oper}{o:Oper}{l:List Oper}(hsome:o.guard.isSome=true)(hw:bL all env o=some true)(h:aa Γ nt n0 (.ops all ({ o with guard:=none }::l)::k) Q env H):
  aa Γ nt n0 (.ops all (o::l)::k) Q env H :=
 fun G0 G a w h0 hl hF hdf hW=>by
  have hn:=h G0 G a w h0 hl hF hdf hW;simp only[aZ]at hn ⊢;unfold wpList at hn ⊢;rw[if_pos (ba rfl)]at hn;rw[if_pos (bQ hF hw)];exact hn
theorem aa.au{all:Array Oper}{o:Oper}{l:List Oper}(h:aa Γ nt n0 (.ops all ({ o with guard:=none }::l)::k) Q env H)(hsome:o.guard.isSome=true:=by rfl)(hw:bL all env o=some true:=by rfl):aa Γ nt n0 (.ops all (o::l)::k) Q env H:=aa.LX hsome hw h
theorem aa.Jp{all:Array Oper}{o:Oper}{l:List Oper}(hsome:o.guard.isSome=true)(hw:bL all env o=some true)(h:aa Γ nt n0 (.qops all ({ o with guard:=none }::l)::k) Q env H):
  aa Γ nt n0 (.qops all (o::l)::k) Q env H :=
 fun G0 G a w h0 hl hF hdf hW=>by
  have hn:=h G0 G a w h0 hl hF hdf hW;simp only[aZ]at hn ⊢;unfold wpQuiet at hn ⊢;rw[if_pos (ba rfl)]at hn;rw[if_pos (bQ hF hw)];exact hn
theorem aa.bw{all:Array Oper}{o:Oper}{l:List Oper}(h:aa Γ nt n0 (.qops all ({ o with guard:=none }::l)::k) Q env H)(hsome:o.guard.isSome=true:=by rfl)(hw:bL all env o=some true:=by rfl):aa Γ nt n0 (.qops all (o::l)::k) Q env H:=aa.Jp hsome hw h
def D.iQ:D→Option Value
 | .bool b=>some (.bool b)
 | .int k n=>some (.int k n)
 | .str s=>some (.string ⟨s.toArray⟩)
 | .nilp=>some (.pointer none)
 |_=>none
def pI:List D→Option (List Value)
 |[]=>some []
 |x::r=>match x.iQ,pI r with|some v,some l=>some (v::l)|_,_=>none
def AV.iQ:AV→Option Value
 | .d (.agg cs)=>match pI cs with|some l=>some (.agg l.toArray)|none=>none
 | .d x=>x.iQ
 | .cH vs=>tv vs
 |_=>none
where
 tv (vs:List AV):Option Value:=match go vs with|some l=>some (.tuple l.toArray)|none=>none
 go:List AV→Option (List Value)
 |[]=>some []
 | .d (.agg cs)::r=>match pI cs,go r with|some l,some m=>some (.agg l.toArray::m)|_,_=>none
 | .d x::r=>match x.iQ,go r with|some v,some m=>some (v::m)|_,_=>none
 |_::_=>none
theorem D.val_ok{imm:Nat→List Value}{x:D}{u v:Value}(h:DRel imm u x)(hv:x.iQ=some v):u=v:=by
 cases h<;>simp[D.iQ]at hv<;>try exact hv
theorem ET{imm:Nat→List Value}:∀{l:List D} {us vs:List Value},us.length=l.length→(∀(i:Nat) (c:D),l[i]?=some c→DRel imm (gv us i) c)→pI l=some vs→us=vs
 |[],us,vs,hl,_,hv=>by
  simp[pI]at hv;subst hv;exact List.eq_nil_of_length_eq_zero (by simpa using hl)
 | x :: r, us, vs, hl, h, hv => by
  simp only[pI]at hv;split at hv
  ·rename_i v l h1 h2;cases hv;cases us with
   |nil=>simp at hl
   |cons u us =>
    have:=D.val_ok (h 0 x rfl) h1;simp[gv]at this;subst this;rw[ET (us:=us) (by simpa using hl) (fun i c hc=>by simpa[gv]using h (i+1) c (by simpa using hc)) h2]
  ·cases hv
theorem Gy{cs:List D}{u:Value}{l:List Value}(h:bA G u (.d (.agg cs)))(hv:pI cs=some l):u = .agg l.toArray:=by
 cases h with
 | d _ _ hd => cases hd with
  |agg vs _ hl hone h =>
   have:=ET (us:=vs.toList) (by simpa using hl) h hv;rw[←this]
theorem OY{x:D}{u v:Value}(h:bA G u (.d x))(hv:x.iQ=some v):u=v:=by
 cases h with|d _ _ hd=>exact D.val_ok hd hv
theorem go_ok:∀{l:List AV} {us vs:List Value},us.length=l.length→(∀(i:Nat) (c:AV),l[i]?=some c→bA G (gv us i) c)→AV.iQ.go l=some vs→us=vs:=by
 intro l
 induction l with
 |nil =>
  intro us vs hl _ hv;simp[AV.iQ.go]at hv;subst hv;exact List.eq_nil_of_length_eq_zero (by simpa using hl)
 | cons a r ih =>
  intro us vs hl h hv;cases us with
  |nil=>simp at hl
  | cons u us =>
   have h0:=h 0 a rfl;simp[gv]at h0;have ih':=fun m (hm:AV.iQ.go r=some m)=>ih (us:=us) (by simpa using hl) (fun i c hc=>by simpa[gv]using h (i+1) c (by simpa using hc)) hm
   unfold AV.iQ.go at hv;split at hv
   ·rename_i he;cases he
   ·rename_i cs r' he;cases he;split at hv
    ·rename_i l' m h1 h2;cases hv;rw[Gy h0 h1,ih' m h2]
    ·cases hv
   ·rename_i x r' hne he;cases he;split at hv
    ·rename_i v m h1 h2;cases hv;rw[OY h0 h1,ih' m h2]
    ·cases hv
   ·cases hv
theorem AV.val_ok{x:AV}{u v:Value}(h:bA G u x)(hv:x.iQ=some v):u=v:=by
 unfold AV.iQ at hv;split at hv
 ·split at hv
  ·cases hv;exact Gy h ‹_›
  ·cases hv
 ·exact OY h hv
 ·unfold AV.iQ.tv at hv;split at hv
  ·rename_i l hl;cases hv;cases h with
   |cH vs _ hl' h =>
    have:=go_ok (us:=vs.toList) (by simpa using hl') h hl;rw[←this]
  ·cases hv
 ·cases hv
theorem D.ow{imm:Nat→List Value}{x:D}{v:Value}(hv:x.iQ=some v):DRel imm v x∧x.one=true:=by
 cases x<;>simp[D.iQ]at hv<;>subst hv<;>refine⟨?_,rfl⟩
 ·exact .bool _
 ·exact .int _ _
 ·exact .str _
 ·exact .nilp
theorem EU{imm:Nat→List Value}:∀{l:List D} {vs:List Value},pI l=some vs→vs.length=l.length∧(∀c∈l,c.one=true)∧∀(i:Nat) (c:D),l[i]?=some c→DRel imm (gv vs i) c
 |[],vs,hv=>by simp[pI]at hv;subst hv;simp
 | x :: r, vs, hv => by
  simp only[pI]at hv;split at hv
  ·rename_i v l h1 h2;cases hv;obtain⟨e1,e2,e3⟩:=EU (imm:=imm) h2;obtain⟨d1,d2⟩:=D.ow (imm:=imm) h1;refine⟨by simp[e1],fun c hc=>?_,fun i c hc=>?_⟩
   ·rcases List.mem_cons.1 hc with rfl|hc
    ·exact d2
    ·exact e2 c hc
   ·cases i with
    |zero=>simp at hc;subst hc;simpa[gv]using d1
    |succ i=>simpa[gv]using e3 i c (by simpa using hc)
  ·cases hv
theorem Gz{cs:List D}{l:List Value}(hv:pI cs=some l):bA G (.agg l.toArray) (.d (.agg cs)):=by
 obtain⟨e1,e2,e3⟩:=EU (imm:=G.imm) hv;exact .d _ _ (.agg _ _ (by simpa using e1) e2 (by simpa using e3))
theorem R6:∀{l:List AV} {vs:List Value},AV.iQ.go l=some vs→vs.length=l.length∧∀(i:Nat) (c:AV),l[i]?=some c→bA G (gv vs i) c:=by
 intro l
 induction l with
 |nil=>intro vs hv;simp[AV.iQ.go]at hv;subst hv;simp
 | cons a r ih =>
  intro vs hv;have fin:∀{v m},bA G v a→AV.iQ.go r=some m→vs=v::m→vs.length=(a::r).length∧∀(i:Nat) (c:AV),(a::r)[i]?=some c→bA G (gv vs i) c:=fun {v m} h0 h2 he=>by
   subst he;obtain⟨e1,e2⟩:=ih h2;refine⟨by simp[e1],fun i c hc=>?_⟩;cases i with
   |zero=>simp at hc;subst hc;simpa[gv]using h0
   |succ i=>simpa[gv]using e2 i c (by simpa using hc)
  unfold AV.iQ.go at hv;split at hv
  ·rename_i he;cases he
  ·rename_i cs r' he;cases he;split at hv
   ·rename_i l' m h1 h2;cases hv;exact fin (Gz h1) h2 rfl
   ·cases hv
  ·rename_i x r' hne he;cases he;split at hv
   ·rename_i v m h1 h2;cases hv;exact fin (.d _ _ (D.ow h1).1) h2 rfl
   ·cases hv
  ·cases hv
theorem AV.ow{x:AV}{v:Value}(hv:x.iQ=some v):bA G v x:=by
 unfold AV.iQ at hv;split at hv
 ·split at hv
  ·cases hv;exact Gz ‹_›
  ·cases hv
 ·exact .d _ _ (D.ow hv).1
 ·unfold AV.iQ.tv at hv;split at hv
  ·rename_i l hl;cases hv;obtain⟨e1,e2⟩:=R6 (G:=G) hl;exact .cH _ _ (by simpa using e1) (by simpa using e2)
  ·cases hv
 ·cases hv
theorem aa.BU{all:Array Oper}{o:Oper}{l:List Oper}{t f:Nat}{args:List AV}{R:AV→List aN→Prop}(r:AV)
  (hR:ACalls Γ f args [] R) (hg:o.guard=none) (hd:o.dst=some t) (ht:Nat.ble (t+1) nt=true)
  (hcall:eU Γ env o.op=some (f,args)) (hab:AV.dF 0 args=true) (hr:∀r' H',R r' H'→r'=r) {v:Value} (hv:r.iQ=some v) (hb:r.bnd 0=true)
  (h:aa Γ nt n0 (.qops all l::k) Q ((t,r)::env) H):aa Γ nt n0 (.qops all (o::l)::k) Q env H :=
 fun G0 G a w h0 hl hF hdf hW=>by
  obtain⟨vs,hA,hrun⟩:=ll hW hF hcall hR.1;have calls:∀w1,Below w.heap.size w w1→Calls Γ.P f vs w1 fun e w'=>∃u G',e = .returned u∧bA G' u r∧Below w1.heap.size w1 w':=fun w1 hb1=>by
   have hW1:=hW.below hb1;have hWc:=hW1.callee (ρ:=[]) (Hc:=[]) List.nodup_nil rfl rfl;have hAc:jZ (G.callee w1 H []) vs args:=⟨hA.1,fun i c hc=>(hA.2 i c hc).mono' (k:=0) (G':=G.callee w1 H []) (dR.refl G.imm) (fun id b h _=>by omega) (fun id n v h _=>by omega) (eY hab hc)⟩;refine (hR.2 _ w1 vs hWc hAc).mono ?_;rintro e w' ⟨u,r',H',G',rfl,hRr,_,hle,hu,hW'⟩;obtain rfl:=hr r' H' hRr;refine⟨u,G',rfl,hu,?_⟩;have b0:G'.base=w1:=hle.base;have o0:∀b,¬G'.own0 b:=fun b h=>by rw[hle.own0]at h;obtain⟨id,o,hm,_⟩:=h;simp at hm
   exact⟨by rw[hW'.os,b0],by rw[hW'.tape,b0],by rw[hW'.output,b0],by have:=hW'.size;rwa [b0]at this,fun b hb=>by have:=(hW'.old b (by rw[b0];exact hb) (o0 b)).1;rwa [b0]at this⟩
  have hvr:bA G v r:=by
   obtain⟨e,w',fr,⟨u,G',rfl,hu,_⟩,_⟩:=calls w (Below.refl _ _) [];have:=AV.val_ok hu hv;subst this;clear hrun calls;exact AV.ow hv
  have hn:=h G0 G (a.put (some t) v) w h0 hl (hF.put ht hvr) (by simp[Act.put,hdf]) hW;simp only[aZ]at hn ⊢;unfold wpQuiet;rw[if_pos (ba hg)];refine⟨v,fun w1 hb1=>?_,by rw[hd];exact hn⟩;unfold Oper.quietAt;rw[hrun w1];refine⟨rfl,(calls w1 hb1).mono ?_⟩;rintro e w' ⟨u,G',rfl,hu,hb'⟩;refine⟨by rw[AV.val_ok hu hv],?_⟩;exact hb1.trans (hb'.mono hb1.size)
end
end
section
open Go Go.RowKit
section
variable {Γ:Ctx}{nt n0:Nat}{k:List It}{Q:Post}{env:Env}{H:List aN}{G:aO}{w w':World}
theorem iq{imm:Nat→List Value}:∀{vs:List Value} {ds:List D},jN vs ds=true→vs.length=ds.length∧(∀c∈ds,c.one=true)∧∀(i:Nat) (c:D),ds[i]?=some c→DRel imm (gv vs i) c:=by
 intro vs
 induction vs with
 |nil=>intro ds h;cases ds<;>simp_all [jN]
 | cons v vs ih =>
  intro ds h;cases ds with
  |nil=>cases v<;>simp[jN]at h
  | cons d ds =>
   have key:DRel imm v d∧d.one=true∧jN vs ds=true:=by
    unfold jN at h;split at h
    ·rename_i he _;cases he
    ·rename_i h1 h2;cases h1;cases h2;simp at h;obtain⟨rfl,h⟩:=h;exact⟨.bool _,rfl,h⟩
    ·rename_i h1 h2;cases h1;cases h2;simp at h;obtain⟨⟨rfl,rfl⟩,h⟩:=h;exact⟨.int _ _,rfl,h⟩
    ·rename_i s r s' h1 h2;cases h1;cases h2;simp at h;have e:s.data=#[]:=h.1;have:=DRel.str (imm:=imm) s;rw[e]at this;exact⟨this,rfl,h.2⟩
    ·rename_i h1 h2;cases h1;cases h2;exact⟨.nilp,rfl,h⟩
    ·rename_i h1 h2;cases h1;cases h2;exact⟨.aU,rfl,h⟩
    ·rename_i h1 h2;cases h1;cases h2;exact⟨.nilm,rfl,h⟩
    ·rename_i h1 h2;cases h1;cases h2;exact⟨.top _ rfl,rfl,h⟩
    ·rename_i h1 h2;cases h1;cases h2;exact⟨.top _ rfl,rfl,h⟩
    ·cases h
   obtain⟨e1,e2,e3⟩:=ih key.2.2;refine⟨by simp[e1],fun c hc=>?_,fun i c hc=>?_⟩
   ·rcases List.mem_cons.1 hc with rfl|hc
    ·exact key.2.1
    ·exact e2 c hc
   ·cases i with
    |zero=>simp at hc;subst hc;simpa[gv]using key.1
    |succ i=>simpa[gv]using e3 i c (by simpa using hc)
def aO.bind(G:aO)(id b:Nat):aO:={ G with loc:=fun i=>if i=id then some b else G.loc i }
theorem bM.new(hW:bM Γ.gl G H w){cur:Array Value}{t:TypeId}{cs:List AV}(hl:cs.length≤cur.size)(h1:∀c∈cs,c.one=true)
  (h:∀(i:Nat) (c:AV),cs[i]?=some c→bA G (gv cur.toList i) c) :
  GLe H.length G (G.bind H.length w.heap.size)∧bM Γ.gl (G.bind H.length w.heap.size) (H++[.cells cs]) (w.alloc (.cells cur t)):=by
 have hle:GLe H.length G (G.bind H.length w.heap.size):=⟨rfl,rfl,rfl, .refl _,fun id b hid hb=>by simp[aO.bind,Nat.ne_of_lt hid,hb],fun id n v _ hb=>hb⟩;have immz:G.imm w.heap.size=[]:=by
  cases hi:G.imm w.heap.size with
  |nil=>rfl
  |cons v r =>
   have:=hW.imm w.heap.size 0 (by simp[hi]);have:=World.block_lt_of_cell? w _ this;simp at this
 refine⟨hle,hW.step (w':=w.alloc (.cells cur t)) (H':=H++[.cells cs]) hle rfl rfl rfl (by simp) H.length (.cells cs) (by simp) (by simp) (fun id hne=>?_) (fun id _ _ k=>rfl) (fun b hb _=>⟨?_,rfl⟩) (fun b hb i hi=>?_) ?_ (fun b hb=>?_) (fun id hid=>?_)⟩
 ·rcases Nat.lt_or_ge id H.length with h|h
  ·exact List.getElem?_append_left h
  ·rw[List.getElem?_eq_none (by simp;omega),List.getElem?_eq_none h]
 ·exact Below.heap_alloc _ _ _ hb
 ·rcases hb with hb|⟨oj,hj,_⟩
  ·rcases Nat.lt_or_ge w.heap.size b with h'|h'
   ·have:=hW.imm b i hi;have:=World.block_lt_of_cell? w _ this;simp at this;omega
   ·have:b=w.heap.size:=by omega
    subst this;have hi':i<(G.imm w.heap.size).length:=hi;rw[immz]at hi';simp at hi'
  ·simp at hj
 ·refine⟨w.heap.size,cur,t,by simp[aO.bind],heap_alloc_new w _,hl,h1,fun i c hc=>(hW.up hle (h i c hc)),immz⟩
 ·simp only[OB,aO.bind,if_true]at hb;cases hb;exact .inl (Nat.le_refl _)
 ·simp only[List.length_append,List.length_singleton]at hid;refine⟨?_,(hW.lim id (by omega)).2⟩;simp only[aO.bind,if_neg (show ¬id=H.length by omega)];exact (hW.lim id (by omega)).1
def iK:List AV→Bool
 |[]=>true
 |a::r=>a.one&&iK r
theorem jQ:∀{l:List AV},iK l=true→∀c∈l,c.one=true
 |[],_,c,h=>by simp at h
 |a::r,hb,c,h=>by
  simp only[iK,Bool.and_eq_true]at hb;rcases List.mem_cons.1 h with rfl|h
  ·exact hb.1
  ·exact jQ hb.2 c h
theorem om{v:Value}{a:AV}(h:bA G v a)(h1:iK a.cells=true):v.cells.size=a.cells.length∧∀(i:Nat) (c:AV),a.cells[i]?=some c→bA G (gv v.cells.toList i) c:=by
 have single:∀{a:AV},a.cells=[a]→a.one=true→bA G v a→v.cells.size=a.cells.length∧∀(i:Nat) (c:AV),a.cells[i]?=some c→bA G (gv v.cells.toList i) c:=fun {a} ha ho h=>by
  have hv:=h.oneCell ho;have hc:v.cells=#[v]:=by cases v<;>first|rfl|simp[Value.oneCell']at hv
  rw[ha,hc];refine⟨rfl,fun i c hc=>?_⟩;cases i with
  |zero=>simp at hc;subst hc;simpa[gv]using h
  |succ i=>simp at hc
 cases h with
 | d _ x hd =>
  by_cases ho:x.one=true
  ·refine single ?_ ho (.d _ _ hd);cases x<;>first|rfl|simp[D.one]at ho
  ·cases hd<;>simp[D.one]at ho;rename_i vs cs hl hone h;refine⟨by simp[AV.cells,D.cells,Value.cells,hl],fun i c hc=>?_⟩;simp only[AV.cells,D.cells,List.getElem?_map]at hc;cases hq:cs[i]? with
   |none=>simp[hq]at hc
   |some y=>simp[hq]at hc;subst hc;exact .d _ _ (h i y hq)
 |ag vs cs hl hone h=>exact⟨hl,h⟩
 |top=>simp[AV.cells,iK,AV.one]at h1
 |cH=>simp[AV.cells,iK,AV.one]at h1
 |ptr b id off h=>exact single rfl rfl (.ptr b id off h)
 |eptr b cap id n sz i off h=>exact single rfl rfl (.eptr b cap id n sz i off h)
 |own _ sz es id h hd=>exact single rfl rfl (.own _ sz es id h hd)
 |ms _ id n h h2=>exact single rfl rfl (.ms _ id n h h2)
 |fn f vs ws as bs a1 a2 a3 a4=>exact single rfl rfl (.fn f vs ws as bs a1 a2 a3 a4)
 |mp b id h=>exact single rfl rfl (.mp b id h)
 |it b id h=>exact single rfl rfl (.it b id h)
theorem aa.alloc{all:Array Oper}{o:Oper}{l:List Oper}{t T:Nat}{ti:TI}(hop:o.op = .alloc T)(hg:o.guard=none)(hd:o.dst=some t)(ht:Nat.ble (t+1) nt=true)
  (hT:aY Γ.T T=some ti) (h:aa Γ nt n0 (.ops all l::k) Q ((t, .ptr H.length 0)::env) (H++[.cells (ti.zero.map .d)])):aa Γ nt n0 (.ops all (o::l)::k) Q env H :=
 fun G0 G a w h0 hl hF hdf hW=>by
  obtain⟨f⟩:=Γ.ty hT;obtain⟨z1,z2,z3⟩:=iq (imm:=G.imm) f.zok;obtain⟨g1,g2⟩:=hW.new (cur:=f.z.cells) (t:=T) (cs:=ti.zero.map .d) (by simp at z1 ⊢;omega) (fun c hc=>by obtain⟨y,hy,rfl⟩:=List.mem_map.1 hc;exact z2 y hy)
   (fun i c hc => by
    rw[List.getElem?_map]at hc;cases hq:ti.zero[i]? with
    |none=>simp[hq]at hc
    |some y=>simp[hq]at hc;subst hc;exact .d _ _ (z3 i y hq))
  have hv:bA (G.bind H.length w.heap.size) (.pointer (some ⟨w.heap.size,0,none⟩)) (.ptr H.length 0) := .ptr _ _ _ (by simp[aO.bind]);have hn:=h G0 _ (a.put (some t) (.pointer (some ⟨w.heap.size,0,none⟩))) _ (h0.trans (g1.weaken hl)) (by simp;omega) ((hF.up g1 hW.lim).put ht hv) (by simp[Act.put,hdf]) g2;simp only[aZ]at hn ⊢;unfold wpList;rw[if_pos (ba hg)];refine .inl ?_;have hr:(execOp a.eval o).run Γ.P w = .ok (.value (.pointer (some ⟨w.heap.size,0,none⟩))) (w.alloc (.cells f.z.cells T)):=by
   unfold execOp;simp[hop,Instr.alloc,zeroValue,typeInfo,f.info,f.hz,newVar,newRow]
  unfold Oper.wp;rw[hr];simp only[Oper.upon,hd];exact hn
theorem aa.box{all:Array Oper}{o:Oper}{l:List Oper}{t T:Nat}{x:Operand}(hop:o.op = .box T x)(hg:o.guard=none)(hd:o.dst=some t)(ht:Nat.ble (t+1) nt=true)
  {v:AV} (hx':(ev Γ env x).frc=some (True,v)) (ho:iK v.cells=true) (h:aa Γ nt n0 (.ops all l::k) Q ((t, .ptr H.length 0)::env) (H++[.cells v.cells])):aa Γ nt n0 (.ops all (o::l)::k) Q env H :=
 fun G0 G a w h0 hl hF hdf hW=>by
  have hx:ev Γ env x=v:=by rw[jP]at hx';exact (Prod.mk.inj (Option.some.inj hx')).2
  have hxv:=bN hW hF x;rw[hx]at hxv;obtain⟨c1,c2⟩:=om hxv ho;obtain⟨g1,g2⟩:=hW.new (cur:=(a.eval x).cells) (t:=T) (cs:=v.cells) (by omega) (jQ ho) c2;have hv:bA (G.bind H.length w.heap.size) (.pointer (some ⟨w.heap.size,0,none⟩)) (.ptr H.length 0) := .ptr _ _ _ (by simp[aO.bind]);have hn:=h G0 _ (a.put (some t) (.pointer (some ⟨w.heap.size,0,none⟩))) _ (h0.trans (g1.weaken hl)) (by simp;omega) ((hF.up g1 hW.lim).put ht hv) (by simp[Act.put,hdf]) g2;simp only[aZ]at hn ⊢;unfold wpList;rw[if_pos (ba hg)];refine .inl ?_;have hr:(execOp a.eval o).run Γ.P w = .ok (.value (.pointer (some ⟨w.heap.size,0,none⟩))) (w.alloc (.cells (a.eval x).cells T)):=by
   unfold execOp;simp[hop,Instr.box,newVar,newRow]
  unfold Oper.wp;rw[hr];simp only[Oper.upon,hd];exact hn
theorem sG{α:Type}{l:List α}{i:Nat}{x:α}(h:i<l.length):(l.set i x)[i]?=some x:=by simp[h]
theorem bM.write(hW:bM Γ.gl G H w){id b:Nat}{cs cs':List AV}(hid:H[id]?=some (.cells cs))(hb:G.loc id=some b){cur cur':Array Value}{t:TypeId}(hc:w.heap[b]?=some (.cells cur t (0,0)))
  (hl:cs'.length≤cur'.size) (h1:∀c∈cs',c.one=true) (h:∀(i:Nat) (c:AV),cs'[i]?=some c→bA G (gv cur'.toList i) c) :
  bM Γ.gl G (H.set id (.cells cs')) (w.setRow b cur'):=by
 obtain⟨b0,cur0,t0,a1,a2,a3,a4,a5,a6⟩:=hW.obj id _ hid;rw[hb]at a1;cases a1;have hlt:=aI hid;refine hW.step (w':=w.setRow b cur') (H':=H.set id (.cells cs')) (GLe.refl _ _) rfl rfl rfl (by simp) id (.cells cs') (by simp) (sG hlt) (fun id' hne=>List.getElem?_set_ne (fun e=>hne e.symm)) (fun _ _ _ _=>rfl)
  (fun b' hb' hno=>⟨setRow_other w b b' cur' (fun e=>hno _ hid (by subst e;exact hb)),rfl⟩) (fun b' hb' i hi=>?_) ⟨b,cur',t,hb,setRow_heap w b cur cur' t _ hc,hl,h1,h,a6⟩
  (fun b' hob => .inr ⟨_,hid,hob⟩) (fun id' hid'=>hW.lim id' (by simpa using hid'))
 rcases hb' with hb'|⟨oj,hj,hob⟩
 ·have:=hW.imm b' i hi;have:=World.block_lt_of_cell? w _ this;simp at this;omega
 ·rw[hid]at hj;cases hj;simp only[OB]at hob;rw[hb]at hob;cases hob;rw[a6]at hi;simp at hi
def iN(cs:List AV)(off:Nat)(vs:List AV):List AV:=cs.take off++vs++cs.drop (off+vs.length)
theorem l9{α:Type}{l vs:List α}{off:Nat}(h:off+vs.length≤l.length)(i:Nat):
  (l.take off++vs++l.drop (off+vs.length))[i]?=if i<off then l[i]? else if i<off+vs.length then vs[i-off]? else l[i]?:=by
 have e1:(l.take off).length=off:=by simp;omega
 rw[List.append_assoc];by_cases h1:i<off
 ·rw[if_pos h1,List.getElem?_append_left (by omega),List.getElem?_take,if_pos h1]
 ·rw[if_neg h1,List.getElem?_append_right (by omega),e1];by_cases h2:i<off+vs.length
  ·rw[if_pos h2,List.getElem?_append_left (by omega)]
  ·rw[if_neg h2,List.getElem?_append_right (by omega),List.getElem?_drop];congr 1;omega
theorem aa.store{all:Array Oper}{o:Oper}{l:List Oper}{T id off:Nat}{x y:Operand}{ti:TI}{v:AV}{cs:List AV}(hop:o.op = .store T x y)(hg:o.guard=none)(hd:o.dst=none)
  (hT:aY Γ.T T=some ti) (hx:ev Γ env x = .ptr id off) (hy':(ev Γ env y).frc=some (True,v)) (hh:hget H id=some (.cells cs)) (hs:Nat.beq v.cells.length ti.size=true) (ho:iK v.cells=true)
  (hle:off+ti.size≤cs.length) (h:aa Γ nt n0 (.ops all l::k) Q env (H.set id (.cells (iN cs off v.cells)))):aa Γ nt n0 (.ops all (o::l)::k) Q env H :=
 fun G0 G a w h0 hl hF hdf hW=>by
  have hy:ev Γ env y=v:=by rw[jP]at hy';exact (Prod.mk.inj (Option.some.inj hy')).2
  obtain⟨f⟩:=Γ.ty hT;have hxv:=bN hW hF x;rw[hx]at hxv;have hyv:=bN hW hF y;rw[hy]at hyv;have hsz:=Nat.eq_of_beq_eq_true hs;rw[dA]at hh;obtain⟨c1,c2⟩:=om hyv ho;obtain⟨b,cur,t,a1,a2,a3,a4,a5,a6⟩:=hW.obj id _ hh;have hle':off+v.cells.length≤cs.length:=by omega
  have ho':∀u∈(a.eval y).cells.toList,u.oneCell'=true:=fun u hu=>by
   obtain⟨i,hi⟩:=List.getElem?_of_mem hu;have hlt:i<v.cells.length:=by have:=aI hi;simp at this;omega
   have:=c2 i _ (List.getElem?_eq_getElem hlt);have h3:=this.oneCell (jQ ho _ (List.getElem_mem hlt));simpa[gv,List.getD,hi]using h3
  have hstore:=run_storeCells_at Γ.P b off t (a.eval y).cells.toList 0 cur w a2 (by simp;omega) ho';simp only[Nat.add_zero]at hstore;have hW':=hW.write hh a1 a2 (cs':=iN cs off v.cells) (cur':=(cur.toList.take off++(a.eval y).cells.toList++cur.toList.drop (off+(a.eval y).cells.toList.length)).toArray)
   (by simp [iN]; omega) (fun c hc => by
    unfold iN at hc;simp only[List.mem_append]at hc;rcases hc with (hc|hc)|hc
    ·exact a4 c (List.mem_of_mem_take hc)
    ·exact jQ ho c hc
    ·exact a4 c (List.mem_of_mem_drop hc)) (fun i c hc=>by
    unfold iN at hc;rw[l9 hle']at hc;have e:((cur.toList.take off++(a.eval y).cells.toList++cur.toList.drop (off+(a.eval y).cells.toList.length)).toArray.toList)[i]?=if i<off then cur.toList[i]? else if i<off+(a.eval y).cells.toList.length then (a.eval y).cells.toList[i-off]? else cur.toList[i]?:=by
     rw[List.toList_toArray];exact l9 (by simp;omega) i
    have hlen:(a.eval y).cells.toList.length=v.cells.length:=by simpa using c1
    rw[hlen]at e;simp only[gv,List.getD,hlen];rw[e];split at hc
    ·rw[if_pos ‹_›];exact a5 i c hc
    ·rw[if_neg ‹_›];split at hc
     ·rw[if_pos ‹_›];exact c2 _ c hc
     ·rw[if_neg ‹_›];exact a5 i c hc)
  have hn:=h G0 G a _ h0 (by simpa using hl) hF hdf hW';simp only[aZ]at hn ⊢;unfold wpList;rw[if_pos (ba hg)];refine .inl ?_;generalize hxe:a.eval x=xv at hxv;cases hxv with
  | ptr b' _ _ hb' =>
   rw[a1]at hb';cases hb';have hr:(execOp a.eval o).run Γ.P w = .ok .skip (w.setRow b (cur.toList.take off++(a.eval y).cells.toList++cur.toList.drop (off+(a.eval y).cells.toList.length)).toArray):=by
    unfold execOp;have hne:¬(a.eval y).cells.size≠ti.size:=by simp[c1,hsz]
    simp only[hop,hxe,Instr.storeAt,Instr.sureAddr,storeVar,Sem.run_bind,Sem.run_pure,Result.andThen_ok,f.sizeOf,Sem.run_ite,if_neg hne,hstore]
   unfold Oper.wp;rw[hr];simp only[Oper.upon,hd,Act.put];exact hn
end
end
section
open Go Go.RowKit
section
variable {Γ:Ctx}{nt n0:Nat}{k:List It}{Q:Post}{env:Env}{H:List aN}{G:aO}{w w':World}
def aO.know(G:aO)(b:Nat)(xs:List Value):aO:={ G with imm:=fun i=>if i=b then xs else G.imm i }
theorem FV(hW:bM Γ.gl G H w):G.imm w.heap.size=[]:=by
 cases hi:G.imm w.heap.size with
 |nil=>rfl
 |cons v r =>
  have:=hW.imm w.heap.size 0 (by simp[hi]);have:=World.block_lt_of_cell? w _ this;simp at this
theorem bM.JF(hW:bM Γ.gl G H w)(cur:Array Value)(t:TypeId):
  GLe H.length G (G.know w.heap.size cur.toList)∧bM Γ.gl (G.know w.heap.size cur.toList) H (w.alloc (.cells cur t)):=by
 have himm:dR G.imm (G.know w.heap.size cur.toList).imm:=fun b=>by
  by_cases h:b=w.heap.size
  ·subst h;simp[aO.know,FV hW]
  ·simp[aO.know,h]
 have hle:GLe H.length G (G.know w.heap.size cur.toList):=⟨rfl,rfl,rfl,himm,fun _ _ _ h=>h,fun _ _ _ _ h=>h⟩;refine⟨hle,hW.os,hW.tape,hW.output,Nat.le_trans hW.size (by simp),fun b hb hn=>?_,fun b i hi=>?_,fun id o ho=>?_,fun id o b ho hob=>?_,fun id o id' o' b h1 h2 b1 b2=>?_,hW.lim,fun g cs hg=>(hW.glob g cs hg).mono himm⟩
 ·have hlt:b<w.heap.size:=Nat.lt_of_lt_of_le hb hW.size;obtain⟨o1,o2⟩:=hW.old b hb hn;exact⟨(Below.heap_alloc _ _ _ hlt).trans o1,by simp[aO.know,Nat.ne_of_lt hlt];exact o2⟩
 ·by_cases h:b=w.heap.size
  ·subst h;simp only[aO.know,if_true]at hi ⊢;simp at hi;simp[gv,List.getD,hi]
  ·simp only[aO.know,if_neg h]at hi ⊢;have:=hW.imm b i hi;rw[World.cell?_alloc_old _ _ _ h];exact this
 ·refine mJ.keep hle (aI ho) hW.lim (hW.obj id o ho) (fun b hob=>?_) (fun _=>rfl);have hlt:=(hW.obj id o ho).lt hob;exact⟨Below.heap_alloc _ _ _ hlt,by simp[aO.know,Nat.ne_of_lt hlt]⟩
 ·have:OB G id o b:=by cases o<;>exact hob
  exact hW.own id o b ho this
 ·have e1:OB G id o b:=by cases o<;>exact b1
  have e2:OB G id' o' b:=by cases o'<;>exact b2
  exact hW.inj id o id' o' b h1 h2 e1 e2
theorem BW(off:Nat):∀(vs:List Value) (n:Nat) (cells:Array Value),off+n+vs.length≤cells.size →
  ((vs.zipIdx n).foldl (fun cs (x:Value×Nat)=>cs.setIfInBounds (off+x.2) x.1) cells).size=cells.size ∧
  ∀k,((vs.zipIdx n).foldl (fun cs (x:Value×Nat)=>cs.setIfInBounds (off+x.2) x.1) cells)[k]?=if off+n≤k∧k<off+n+vs.length then vs[k-(off+n)]? else cells[k]?
 |[],n,cells,_=>by
  refine⟨by simp,fun k=>?_⟩;simp only[List.zipIdx_nil,List.foldl_nil,List.length_nil,Nat.add_zero];rw[if_neg (by omega)]
 | v :: vs, n, cells, h => by
  simp only[List.length_cons]at h;obtain⟨i1,i2⟩:=BW off vs (n+1) (cells.setIfInBounds (off+n) v) (by simp;omega);simp only[List.zipIdx_cons,List.foldl_cons];refine⟨by rw[i1];simp,fun k=>?_⟩;rw[i2 k];simp only[List.length_cons];by_cases hk:k=off+n
  ·subst hk;rw[if_neg (by omega),if_pos (by omega)];simp[show off+n<cells.size by omega]
  ·by_cases hk2:off+(n+1)≤k∧k<off+(n+1)+vs.length
   ·rw[if_pos hk2,if_pos (by omega)];have:k-(off+n)=(k-(off+(n+1)))+1:=by omega
    rw[this,List.getElem?_cons_succ]
   ·rw[if_neg hk2,if_neg (by omega),Array.getElem?_setIfInBounds_ne (fun e=>hk e.symm)]
theorem Jt(off:Nat)(vs cells:Array Value)(h:off+vs.size≤cells.size):
  (vs.zipIdx.foldl (fun cs (x:Value×Nat)=>cs.setIfInBounds (off+x.2) x.1) cells).size=cells.size ∧
  ∀k,(vs.zipIdx.foldl (fun cs (x:Value×Nat)=>cs.setIfInBounds (off+x.2) x.1) cells)[k]?=if off≤k∧k<off+vs.size then vs[k-off]? else cells[k]?:=by
 have:=BW off vs.toList 0 cells (by simpa using h);rw[←Array.foldl_toList,Array.toList_zipIdx];simpa using this
theorem xA (size : Nat) : ∀ (parts : List Value) (j : Nat) (cells : Array Value), (∀ v ∈ parts, v.cells.size = size) → (j + parts.length) * size ≤ cells.size →
    ∃r,Instr.fill (fun i=>some (i*size,size)) cells ((parts.zipIdx j).map fun x=>(x.2,x.1))=some r∧r.size=cells.size ∧
      ∀k,r[k]?=if j*size≤k∧k<(j+parts.length)*size then ((parts[k/size-j]?).bind fun v=>v.cells[k%size]?) else cells[k]?
  | [], j, cells, _, _ => by
    refine⟨cells,rfl,rfl,fun k=>?_⟩;simp only[List.length_nil,Nat.add_zero];rw[if_neg (by omega)]
  | v :: parts, j, cells, hs, hl => by
    simp only[List.length_cons]at hl;have h1:v.cells.size=size:=hs v List.mem_cons_self;have e1:(j+(parts.length+1))*size=j*size+size+parts.length*size:=by rw[Nat.add_mul,Nat.add_mul];omega
    have hput:=Jt (j*size) v.cells cells (by omega);obtain⟨r,r1,r2,r3⟩:=xA size parts (j+1) (v.cells.zipIdx.foldl (fun cs (x:Value×Nat)=>cs.setIfInBounds (j*size+x.2) x.1) cells) (fun u hu=>hs u (List.mem_cons_of_mem _ hu))
      (by rw [hput.1]; have : (j + 1 + parts.length) * size = (j + (parts.length + 1)) * size := by congr 1; omega
          omega)
    refine⟨r,?_,by rw[r2,hput.1],fun k=>?_⟩
    · simp only [List.zipIdx_cons, List.map_cons, Instr.fill]
      rw[if_neg (by simp[h1];omega)];exact r1
    · rw [r3 k, hput.2 k]
      simp only[List.length_cons];have e2:(j+1)*size=j*size+size:=by rw[Nat.add_mul];omega
      have e3:(j+1+parts.length)*size=j*size+size+parts.length*size:=by rw[Nat.add_mul,Nat.add_mul];omega
      by_cases c1:(j+1)*size≤k∧k<(j+1+parts.length)*size
      · rw [if_pos c1, if_pos (by omega)]
        have hpos:0<size:=by
          rcases Nat.eq_zero_or_pos size with h|h
          · subst h;simp at c1
          · exact h
        have hge:j+1≤k/size:=(Nat.le_div_iff_mul_le hpos).2 c1.1;have:k/size-j=(k/size-(j+1))+1:=by omega
        rw[this,List.getElem?_cons_succ]
      · rw [if_neg c1]
        by_cases c2:j*size≤k∧k<j*size+v.cells.size
        · rw [if_pos c2, if_pos (by omega)]
          have hpos:0<size:=by omega
          have hdiv:k/size=j:=Nat.div_eq_of_lt_le (by omega) (by omega);have hmod:k%size=k-j*size:=by
            have:=Nat.div_add_mod k size;rw[hdiv,Nat.mul_comm]at this;omega
          rw[hdiv,hmod];simp
        · rw[if_neg c2,if_neg (by omega)]
def rL(Γ:Ctx)(env:Env)(sz:Nat):Nat→List (Nat×Operand)→Option (List D)
 |_,[]=>some []
 | j, (i, x) :: r => bif Nat.beq i j then (match (ev Γ env x).unD, rL Γ env sz (j + 1) r with
   |some d,some l=>bif Nat.beq d.cells.length sz then some (d::l) else none
   |_,_=>none) else none
theorem GG{v:Value}{x:D}{sz:Nat}(h:DRel G.imm v x)(hs:x.cells.length=sz)(hone:∀c∈x.cells,c.one=true):
  v.cells.size=sz∧∀(i:Nat) (c:D),x.cells[i]?=some c→DRel G.imm (gv v.cells.toList i) c:=by
 have hx:bA G v (.d x) := .d _ _ h;have hall:iK (AV.d x).cells=true:=by
  have:∀l:List D,(∀c∈l,c.one=true)→iK (l.map .d)=true:=fun l=>by
   induction l with
   |nil=>intro _;rfl
   |cons c l ih=>intro h;simp only[List.map_cons,iK,Bool.and_eq_true];exact⟨h c List.mem_cons_self,ih fun c hc=>h c (List.mem_cons_of_mem _ hc)⟩
  exact this _ hone
 obtain⟨c1,c2⟩:=om hx hall;refine⟨by simpa[AV.cells,hs]using c1,fun i c hc=>?_⟩;have h3:=c2 i (.d c) (by simp[AV.cells,hc]);generalize gv v.cells.toList i=u at h3;cases h3;assumption
theorem cells_one{v:Value}{x:D}(h:DRel G.imm v x):∀c∈x.cells,c.one=true:=by
 cases h<;>intro c hc<;>first
  |(simp[D.cells]at hc;subst hc;rfl)
  |(rename_i hone _;exact hone c hc)
theorem uA{sz:Nat}{a:Act}(hW:bM Γ.gl G H w)(hF:df G nt a.tmps env):∀{j:Nat} {parts:List (Nat×Operand)} {es:List D},rL Γ env sz j parts=some es →
  ∃vs:List Value,parts.map (fun p=>(p.1,a.eval p.2))=(vs.zipIdx j).map (fun x=>(x.2,x.1))∧vs.length=es.length∧(∀v∈vs,v.cells.size=sz) ∧
   (∀e∈es,e.cells.length=sz∧∀c∈e.cells,c.one=true)∧∀(i:Nat) (e:D),es[i]?=some e→∀(m:Nat) (c:D),e.cells[m]?=some c→DRel G.imm (gv (gv vs i).cells.toList m) c
 |j,[],es,h=>by
  simp[rL]at h;subst h;exact⟨[],by simp,rfl,by simp,by simp,fun i e h=>by simp at h⟩
 | j, (i, x) :: r, es, h => by
  simp only[rL]at h;cases hb:Nat.beq i j with
  |false=>rw[hb]at h;cases h
  | true =>
   have:=Nat.eq_of_beq_eq_true hb;subst this;rw[hb,cond_true]at h;split at h
   ·rename_i d l hd hl;cases hs:Nat.beq d.cells.length sz with
    |false=>rw[hs]at h;cases h
    | true =>
     rw[hs]at h;cases h;have hs':=Nat.eq_of_beq_eq_true hs;obtain⟨vs,v1,v2,v3,v4,v5⟩:=uA hW hF hl;have hx:=uo (bN hW hF x) hd;have hone:=cells_one hx;obtain⟨u1,u2⟩:=GG hx hs' hone;refine⟨a.eval x::vs,by simp[v1],by simp[v2],fun v hv=>?_,fun e he=>?_,fun i' e he m c hc=>?_⟩
     ·rcases List.mem_cons.1 hv with rfl|hv
      ·exact u1
      ·exact v3 v hv
     ·rcases List.mem_cons.1 he with rfl|he
      ·exact⟨hs',hone⟩
      ·exact v4 e he
     ·cases i' with
      |zero=>simp at he;subst he;simpa[gv]using u2 m c hc
      |succ i'=>simpa[gv]using v5 i' e (by simpa using he) m c hc
   ·cases h
theorem aa.buildSlice{all:Array Oper}{o:Oper}{l:List Oper}{t T e n:Nat}{parts:Array (Nat×Operand)}{ti te:TI}{es:List D}(hop:o.op = .buildSlice T n parts)(hg:o.guard=none)(hd:o.dst=some t)(ht:Nat.ble (t+1) nt=true)
  (hT:aY Γ.T T=some ti) (hsh:ti.sh = .slice e) (he:aY Γ.T e=some te) (hes:rL Γ env te.size 0 parts.toList=some es) (hn:Nat.beq es.length n=true) (hsz:Nat.ble (n*te.size) 16777216=true) (hpos:Nat.ble 1 (n*te.size)=true)
  (h:aa Γ nt n0 (.ops all l::k) Q ((t, .d (.sl te.size es))::env) H):aa Γ nt n0 (.ops all (o::l)::k) Q env H :=
 fun G0 G a w h0 hl hF hdf hW=>by
  obtain⟨f⟩:=Γ.ty hT;obtain⟨fe⟩:=Γ.ty he;have hnn:=Nat.eq_of_beq_eq_true hn;subst hnn;have hsz':=Nat.le_of_ble_eq_true hsz;have hpos':=Nat.le_of_ble_eq_true hpos;obtain⟨vs,v1,v2,v3,v4,v5⟩:=uA hW hF hes;have hz:fe.z.cells.size=te.size:=by
   have:=(iq (imm:=G.imm) fe.zok).1;rw[fe.zlen]at this;simpa using this
  obtain⟨r,r1,r2,r3⟩:=xA te.size vs 0 ((Array.range (es.length*te.size)).map (fe.z.cells[·%fe.z.cells.size]!)) v3 (by simp[v2]);obtain⟨g1,g2⟩:=hW.JF r e;have hrl:r.toList.length=es.length*te.size:=by simp[r2]
  have hne:es≠[]:=fun e=>by subst e;simp at hpos'
  have hvr:DRel (G.know w.heap.size r.toList).imm (.slice (some ⟨w.heap.size,0,none⟩) es.length es.length) (.sl te.size es):=by
   refine .sl _ 0 _ te.size es hne (Nat.le_refl _) (fun e he=>(v4 e he).1) (fun e he=>(v4 e he).2) (by simp[aO.know,r2]) fun i e j c hei hc=>?_
   have hi:=aI hei;have hj:j<te.size:=by have:=aI hc;rw[(v4 e (List.mem_of_getElem? hei)).1]at this;exact this
   have hk:=oO hi hj;have hget:=r3 (i*te.size+j);rw[if_pos ⟨by rw[Nat.zero_mul];exact Nat.zero_le _,by rw[Nat.zero_add,v2];exact hk⟩]at hget;have hdiv:(i*te.size+j)/te.size=i:=Nat.div_eq_of_lt_le (by omega) (by rw[Nat.add_mul];omega);have hmod:(i*te.size+j)%te.size=j:=by
    have:=Nat.div_add_mod (i*te.size+j) te.size;rw[hdiv,Nat.mul_comm]at this;omega
   rw[hdiv,hmod,Nat.sub_zero]at hget;have hvi:vs[i]?=some (gv vs i):=jm (by omega);rw[hvi,Option.bind_some]at hget;have hvj:(gv vs i).cells[j]?=some (gv (gv vs i).cells.toList j):=by
    have:(gv vs i).cells.size=te.size:=v3 _ (List.mem_of_getElem? hvi);have hlt:j<(gv vs i).cells.toList.length:=by rw[Array.length_toList,this];exact hj
    have:=jm hlt
    rwa [Array.getElem?_toList]at this
   rw[hvj]at hget;have:gv ((G.know w.heap.size r.toList).imm w.heap.size) (0+i*te.size+j)=gv (gv vs i).cells.toList j:=by
    simp only[aO.know,if_true,Nat.zero_add];simp[gv,List.getD]at hget ⊢;rw[hget];rfl
   rw[this];exact (v5 i e hei j c hc).mono g1.imm
  have hn:=h G0 _ (a.put (some t) (.slice (some ⟨w.heap.size,0,none⟩) es.length es.length)) _ (h0.trans (g1.weaken hl)) hl ((hF.up g1 hW.lim).put ht (.d _ _ hvr)) (by simp[Act.put,hdf]) g2;simp only[aZ]at hn ⊢;unfold wpList;rw[if_pos (ba hg)];refine .inl ?_;have hr:(execOp a.eval o).run Γ.P w = .ok (.value (.slice (some ⟨w.heap.size,0,none⟩) es.length es.length)) (w.alloc (.cells r e)):=by
   unfold execOp;have hpl:(parts.map fun (p:Nat×Operand)=>(p.1,a.eval p.2)).toList=(vs.zipIdx 0).map (fun x=>(x.2,x.1)):=by rw[Array.toList_map];exact v1
   have h24:¬es.length*te.size>2^24:=by omega
   have h00:¬es.length*te.size=0:=by omega
   have hfill:Instr.fill (fun i=>some (i*te.size,te.size)) ((Array.range (es.length*te.size)).map (fe.z.cells[·%fe.z.cells.size]!)) (parts.map fun (p:Nat×Operand)=>(p.1,a.eval p.2)).toList=some r:=by rw[hpl];exact r1
   simp only[hop,Instr.buildSlice,Sem.run_bind,run_underlying (cQ f hsh),Result.andThen_ok,fe.sizeOf,if_neg h24,Sem.run_pure,if_neg h00,zeroValue,typeInfo,run_program,fe.info,fe.hz];simp only[hfill];simp[newRow]
  unfold Oper.wp;rw[hr];simp only[Oper.upon,hd];exact hn
theorem aa.aX{all:Array Oper}{o:Oper}{l:List Oper}{t T e n:Nat}{parts:Array (Nat×Operand)}{ti te:TI}{es:List D}(h:aa Γ nt n0 (.ops all l::k) Q ((t, .d (.sl te.size es))::env) H)(hop:o.op = .buildSlice T n parts:=by rfl)(hg:o.guard=none:=by rfl)(hd:o.dst=some t:=by rfl)(ht:Nat.ble (t+1) nt=true:=by rfl)(hT:aY Γ.T T=some ti:=by rfl)(hsh:ti.sh = .slice e:=by rfl)(he:aY Γ.T e=some te:=by rfl)(hes:rL Γ env te.size 0 parts.toList=some es:=by rfl)(hn:Nat.beq es.length n=true:=by rfl)(hsz:Nat.ble (n*te.size) 16777216=true:=by rfl)(hpos:Nat.ble 1 (n*te.size)=true:=by rfl):aa Γ nt n0 (.ops all (o::l)::k) Q env H:=aa.buildSlice hop hg hd ht hT hsh he hes hn hsz hpos h
end
end
section
open Go Go.RowKit
theorem mf(ρ:List Nat):∀(a:AV),a.bnd 0=true→a.ren ρ=a
 | .d x,_=>by simp[AV.ren]
 | .ptr ..,h=>by simp[AV.bnd]at h
 | .eptr ..,h=>by simp[AV.bnd]at h
 | .own ..,h=>by simp[AV.bnd]at h
 | .ms ..,h=>by simp[AV.bnd]at h
 | .ag cs, h => by
  simp only[AV.bnd]at h;simp only[AV.ren,dV];congr 1
  conv=>rhs;rw[←List.map_id cs]
  exact List.map_congr_left fun c hc=>by
   obtain⟨i,hi⟩:=List.getElem?_of_mem hc;exact mf ρ c (eY h hi)
 | .cH cs, h => by
  simp only[AV.bnd]at h;simp only[AV.ren,dV];congr 1
  conv=>rhs;rw[←List.map_id cs]
  exact List.map_congr_left fun c hc=>by
   obtain⟨i,hi⟩:=List.getElem?_of_mem hc;exact mf ρ c (eY h hi)
 | .fn f as bs, h => by
  simp only[AV.bnd,Bool.and_eq_true]at h;simp only[AV.ren,dV];congr 1
  ·conv=>rhs;rw[←List.map_id as]
   exact List.map_congr_left fun c hc=>by
    obtain⟨i,hi⟩:=List.getElem?_of_mem hc;exact mf ρ c (eY h.1 hi)
  ·conv=>rhs;rw[←List.map_id bs]
   exact List.map_congr_left fun c hc=>by
    obtain⟨i,hi⟩:=List.getElem?_of_mem hc;exact mf ρ c (eY h.2 hi)
 | .mp ..,h=>by simp[AV.bnd]at h
 | .it ..,h=>by simp[AV.bnd]at h
 | .top,_=>by simp[AV.ren]
termination_by a=>SizeOf.sizeOf a
decreasing_by
 all_goals simp_wf
 all_goals (have:=List.sizeOf_lt_of_mem ‹_∈_›;omega)
theorem nQ(ρ:List Nat){l:List AV}(h:AV.dF 0 l=true):AV.jy ρ l=l:=by
 rw[dV]
 conv=>rhs;rw[←List.map_id l]
 exact List.map_congr_left fun c hc=>by
  obtain⟨i,hi⟩:=List.getElem?_of_mem hc;exact mf ρ c (eY h hi)
section
variable {Γ:Ctx}{nt n0:Nat}{k:List It}{Q:Post}{env:Env}{H:List aN}{G:aO}{w w':World}
theorem aa.pE{t:Nat}{b:Bool}(c:Bool)(hb:env.get t = .d (.bool b))(hp:b=c)(h:aa Γ nt n0 k Q ((t, .d (.bool c))::env) H):aa Γ nt n0 k Q env H :=
 fun G0 G a w h0 hl hF hd hW=>h G0 G a w h0 hl ⟨hF.size,fun i=>by
  simp only[Env.get];cases hi:Nat.beq t i with
  |false=>exact hF.rel i
  |true =>
   have:=Nat.eq_of_beq_eq_true hi;subst this;subst hp;have:=hF.rel t
   rwa [hb]at this⟩ hd hW
theorem aa.gT{all:Array Oper}{o:Oper}{l:List Oper}{t j:Nat}{want:Bool}{p:Prop}{inst:Decidable p}(hg:o.guard=some (j,want))(hj:(all[j]?).bind (·.dst)=some t)(hb:env.get t = .d (.bool (decide p)))(hp:p)
  (h:aa Γ nt n0 (.ops all (o::l)::k) Q ((t, .d (.bool true))::env) H):aa Γ nt n0 (.ops all (o::l)::k) Q env H:=aa.pE true hb (decide_eq_true hp) h
theorem aa.cf{all:Array Oper}{o:Oper}{l:List Oper}{t j:Nat}{want:Bool}{p:Prop}{inst:Decidable p}(h:aa Γ nt n0 (.ops all (o::l)::k) Q ((t, .d (.bool true))::env) H)(hg:o.guard=some (j,want):=by rfl)(hj:(all[j]?).bind (·.dst)=some t:=by rfl)(hb:env.get t = .d (.bool (decide p)):=by rfl)(hp:p:=by first|omega|rfl):aa Γ nt n0 (.ops all (o::l)::k) Q env H:=aa.gT hg hj hb hp h
theorem aa.gF{all:Array Oper}{o:Oper}{l:List Oper}{t j:Nat}{want:Bool}{p:Prop}{inst:Decidable p}(hg:o.guard=some (j,want))(hj:(all[j]?).bind (·.dst)=some t)(hb:env.get t = .d (.bool (decide p)))(hp:¬p)
  (h:aa Γ nt n0 (.ops all (o::l)::k) Q ((t, .d (.bool false))::env) H):aa Γ nt n0 (.ops all (o::l)::k) Q env H:=aa.pE false hb (decide_eq_false hp) h
theorem aa.bg{all:Array Oper}{o:Oper}{l:List Oper}{t j:Nat}{want:Bool}{p:Prop}{inst:Decidable p}(h:aa Γ nt n0 (.ops all (o::l)::k) Q ((t, .d (.bool false))::env) H)(hg:o.guard=some (j,want):=by rfl)(hj:(all[j]?).bind (·.dst)=some t:=by rfl)(hb:env.get t = .d (.bool (decide p)):=by rfl)(hp:¬p:=by omega):aa Γ nt n0 (.ops all (o::l)::k) Q env H:=aa.gF hg hj hb hp h
theorem aa.qgT{all:Array Oper}{o:Oper}{l:List Oper}{t j:Nat}{want:Bool}{p:Prop}{inst:Decidable p}(hg:o.guard=some (j,want))(hj:(all[j]?).bind (·.dst)=some t)(hb:env.get t = .d (.bool (decide p)))(hp:p)
  (h:aa Γ nt n0 (.qops all (o::l)::k) Q ((t, .d (.bool true))::env) H):aa Γ nt n0 (.qops all (o::l)::k) Q env H:=aa.pE true hb (decide_eq_true hp) h
theorem aa.BR{all:Array Oper}{o:Oper}{l:List Oper}{t j:Nat}{want:Bool}{p:Prop}{inst:Decidable p}(h:aa Γ nt n0 (.qops all (o::l)::k) Q ((t, .d (.bool true))::env) H)(hg:o.guard=some (j,want):=by rfl)(hj:(all[j]?).bind (·.dst)=some t:=by rfl)(hb:env.get t = .d (.bool (decide p)):=by rfl)(hp:p:=by first|omega|rfl):aa Γ nt n0 (.qops all (o::l)::k) Q env H:=aa.qgT hg hj hb hp h
theorem aa.qgF{all:Array Oper}{o:Oper}{l:List Oper}{t j:Nat}{want:Bool}{p:Prop}{inst:Decidable p}(hg:o.guard=some (j,want))(hj:(all[j]?).bind (·.dst)=some t)(hb:env.get t = .d (.bool (decide p)))(hp:¬p)
  (h:aa Γ nt n0 (.qops all (o::l)::k) Q ((t, .d (.bool false))::env) H):aa Γ nt n0 (.qops all (o::l)::k) Q env H:=aa.pE false hb (decide_eq_false hp) h
theorem aa.BS{all:Array Oper}{o:Oper}{l:List Oper}{t j:Nat}{want:Bool}{p:Prop}{inst:Decidable p}(h:aa Γ nt n0 (.qops all (o::l)::k) Q ((t, .d (.bool false))::env) H)(hg:o.guard=some (j,want):=by rfl)(hj:(all[j]?).bind (·.dst)=some t:=by rfl)(hb:env.get t = .d (.bool (decide p)):=by rfl)(hp:¬p:=by omega):aa Γ nt n0 (.qops all (o::l)::k) Q env H:=aa.qgF hg hj hb hp h
theorem aa.gS{all:Array Oper}{o:Oper}{l:List Oper}{t j:Nat}{want b:Bool}(hg:o.guard=some (j,want))(hj:(all[j]?).bind (·.dst)=some t)(hb:env.get t = .d (.bool b))
  (h1:b=true→aa Γ nt n0 (.ops all (o::l)::k) Q ((t, .d (.bool true))::env) H) (h2:b=false→aa Γ nt n0 (.ops all (o::l)::k) Q ((t, .d (.bool false))::env) H):aa Γ nt n0 (.ops all (o::l)::k) Q env H:=by
 cases hc:b with
 |true=>exact aa.pE true hb hc (h1 hc)
 |false=>exact aa.pE false hb hc (h2 hc)
theorem aa.qgS{all:Array Oper}{o:Oper}{l:List Oper}{t j:Nat}{want b:Bool}(hg:o.guard=some (j,want))(hj:(all[j]?).bind (·.dst)=some t)(hb:env.get t = .d (.bool b))
  (h1:b=true→aa Γ nt n0 (.qops all (o::l)::k) Q ((t, .d (.bool true))::env) H) (h2:b=false→aa Γ nt n0 (.qops all (o::l)::k) Q ((t, .d (.bool false))::env) H):aa Γ nt n0 (.qops all (o::l)::k) Q env H:=by
 cases hc:b with
 |true=>exact aa.pE true hb hc (h1 hc)
 |false=>exact aa.pE false hb hc (h2 hc)
theorem aa.sgT{all:Array Oper}{o:Oper}{l:List Oper}{t j:Nat}{want:Bool}{p:Prop}{inst:Decidable p}(hg:o.guard=some (j,want))(hj:(all[j]?).bind (·.dst)=some t)(hb:env.get t = .d (.bool (decide p)))(hp:p)
  (h:aa Γ nt n0 (.sops all (o::l)::k) Q ((t, .d (.bool true))::env) H):aa Γ nt n0 (.sops all (o::l)::k) Q env H:=aa.pE true hb (decide_eq_true hp) h
theorem aa.OH{all:Array Oper}{o:Oper}{l:List Oper}{t j:Nat}{want:Bool}{p:Prop}{inst:Decidable p}(h:aa Γ nt n0 (.sops all (o::l)::k) Q ((t, .d (.bool true))::env) H)(hg:o.guard=some (j,want):=by rfl)(hj:(all[j]?).bind (·.dst)=some t:=by rfl)(hb:env.get t = .d (.bool (decide p)):=by rfl)(hp:p:=by first|omega|rfl):aa Γ nt n0 (.sops all (o::l)::k) Q env H:=aa.sgT hg hj hb hp h
theorem aa.sgF{all:Array Oper}{o:Oper}{l:List Oper}{t j:Nat}{want:Bool}{p:Prop}{inst:Decidable p}(hg:o.guard=some (j,want))(hj:(all[j]?).bind (·.dst)=some t)(hb:env.get t = .d (.bool (decide p)))(hp:¬p)
  (h:aa Γ nt n0 (.sops all (o::l)::k) Q ((t, .d (.bool false))::env) H):aa Γ nt n0 (.sops all (o::l)::k) Q env H:=aa.pE false hb (decide_eq_false hp) h
theorem aa.OI{all:Array Oper}{o:Oper}{l:List Oper}{t j:Nat}{want:Bool}{p:Prop}{inst:Decidable p}(h:aa Γ nt n0 (.sops all (o::l)::k) Q ((t, .d (.bool false))::env) H)(hg:o.guard=some (j,want):=by rfl)(hj:(all[j]?).bind (·.dst)=some t:=by rfl)(hb:env.get t = .d (.bool (decide p)):=by rfl)(hp:¬p:=by omega):aa Γ nt n0 (.sops all (o::l)::k) Q env H:=aa.sgF hg hj hb hp h
theorem aa.sgS{all:Array Oper}{o:Oper}{l:List Oper}{t j:Nat}{want b:Bool}(hg:o.guard=some (j,want))(hj:(all[j]?).bind (·.dst)=some t)(hb:env.get t = .d (.bool b))
  (h1:b=true→aa Γ nt n0 (.sops all (o::l)::k) Q ((t, .d (.bool true))::env) H) (h2:b=false→aa Γ nt n0 (.sops all (o::l)::k) Q ((t, .d (.bool false))::env) H):aa Γ nt n0 (.sops all (o::l)::k) Q env H:=by
 cases hc:b with
 |true=>exact aa.pE true hb hc (h1 hc)
 |false=>exact aa.pE false hb hc (h2 hc)
theorem aa.cBT{c:Operand}{x y:Code}{b:Bool}(hb:ev Γ env c = .d (.bool b))(hp:b=true)(ht:aa Γ nt n0 (.code x::k) Q env H):aa Γ nt n0 (.code (.cond c x y)::k) Q env H :=
 aa.cond b hb (fun _=>ht) (fun h=>by rw[hp]at h;cases h)
theorem aa.aQ{c:Operand}{x y:Code}{b:Bool}(ht:aa Γ nt n0 (.code x::k) Q env H)(hb:ev Γ env c = .d (.bool b):=by rfl)(hp:b=true:=by first|(simp only[bT];omega)):aa Γ nt n0 (.code (.cond c x y)::k) Q env H:=aa.cBT hb hp ht
theorem aa.pu{c:Operand}{x y:Code}{b:Bool}(ht:aa Γ nt n0 (.code x::k) Q env H)(hb:ev Γ env c = .d (.bool b):=by rfl)(hp:b=true:=by first|(simp only[bT];omega)|(exact hk)):aa Γ nt n0 (.code (.cond c x y)::k) Q env H:=aa.cBT hb hp ht
theorem aa.cBF{c:Operand}{x y:Code}{b:Bool}(hb:ev Γ env c = .d (.bool b))(hp:b=false)(ht:aa Γ nt n0 (.code y::k) Q env H):aa Γ nt n0 (.code (.cond c x y)::k) Q env H :=
 aa.cond b hb (fun h=>by rw[hp]at h;cases h) (fun _=>ht)
theorem aa.bX{c:Operand}{x y:Code}{b:Bool}(ht:aa Γ nt n0 (.code y::k) Q env H)(hb:ev Γ env c = .d (.bool b):=by rfl)(hp:b=false:=by first|(simp only[bF];omega)|exact ndF rfl):aa Γ nt n0 (.code (.cond c x y)::k) Q env H:=aa.cBF hb hp ht
theorem aa.pz{c:Operand}{x y:Code}{b:Bool}(ht:aa Γ nt n0 (.code y::k) Q env H)(hb:ev Γ env c = .d (.bool b):=by rfl)(hp:b=false:=by first|(simp only[bF];omega)|exact ndF rfl|(exact hk)):aa Γ nt n0 (.code (.cond c x y)::k) Q env H:=aa.cBF hb hp ht
theorem aa.gD{all:Array Oper}{o:Oper}{l:List Oper}{t j:Nat}{want:Bool}{p:Prop}{inst:Decidable p}(hg:o.guard=some (j,want))(hj:(all[j]?).bind (·.dst)=some t)(hb:env.get t = .d (.bool (decide p)))
  (h1:p→aa Γ nt n0 (.ops all (o::l)::k) Q ((t, .d (.bool true))::env) H) (h2:¬p→aa Γ nt n0 (.ops all (o::l)::k) Q ((t, .d (.bool false))::env) H):aa Γ nt n0 (.ops all (o::l)::k) Q env H :=
 aa.gS hg hj hb (fun h=>h1 (of_decide_eq_true h)) (fun h=>h2 (of_decide_eq_false h))
theorem aa.qgD{all:Array Oper}{o:Oper}{l:List Oper}{t j:Nat}{want:Bool}{p:Prop}{inst:Decidable p}(hg:o.guard=some (j,want))(hj:(all[j]?).bind (·.dst)=some t)(hb:env.get t = .d (.bool (decide p)))
  (h1:p→aa Γ nt n0 (.qops all (o::l)::k) Q ((t, .d (.bool true))::env) H) (h2:¬p→aa Γ nt n0 (.qops all (o::l)::k) Q ((t, .d (.bool false))::env) H):aa Γ nt n0 (.qops all (o::l)::k) Q env H :=
 aa.qgS hg hj hb (fun h=>h1 (of_decide_eq_true h)) (fun h=>h2 (of_decide_eq_false h))
theorem aa.sgD{all:Array Oper}{o:Oper}{l:List Oper}{t j:Nat}{want:Bool}{p:Prop}{inst:Decidable p}(hg:o.guard=some (j,want))(hj:(all[j]?).bind (·.dst)=some t)(hb:env.get t = .d (.bool (decide p)))
  (h1:p→aa Γ nt n0 (.sops all (o::l)::k) Q ((t, .d (.bool true))::env) H) (h2:¬p→aa Γ nt n0 (.sops all (o::l)::k) Q ((t, .d (.bool false))::env) H):aa Γ nt n0 (.sops all (o::l)::k) Q env H :=
 aa.sgS hg hj hb (fun h=>h1 (of_decide_eq_true h)) (fun h=>h2 (of_decide_eq_false h))
theorem aa.cZ{c:Operand}{x y:Code}{p:Prop}{inst:Decidable p}(hb:ev Γ env c = .d (.bool (decide p)))(ht:p→aa Γ nt n0 (.code x::k) Q env H)(hf:¬p→aa Γ nt n0 (.code y::k) Q env H):
  aa Γ nt n0 (.code (.cond c x y)::k) Q env H:=aa.KZ hb ht hf
theorem aa.SD{all:Array Oper}{o:Oper}{l:List Oper}{t f:Nat}{args:List AV}{X:AV}(hR:ACalls Γ f args [] (fun r H=>r=X∧H=[]))(hg:o.guard=none)(hd:o.dst=some t)(ht:Nat.ble (t+1) nt=true)
  (hcall:eU Γ env o.op=some (f,args)) (hab:AV.dF 0 args=true) (hb:X.bnd 0=true) (h:aa Γ nt n0 (.ops all l::k) Q ((t,X)::env) H):aa Γ nt n0 (.ops all (o::l)::k) Q env H:=by
 refine aa.call [] hR hg hd ht hcall (nQ _ hab).symm (by simpa using hab) List.nodup_nil rfl rfl ?_;rintro r Hc' ⟨rfl,rfl⟩ _;exact⟨r,H,(mf _ _ hb).symm,by simp[iw],h⟩
theorem aa.av{all:Array Oper}{o:Oper}{l:List Oper}{t f:Nat}{args:List AV}{X:AV}(hR:ACalls Γ f args [] (fun r H=>r=X∧H=[]))(h:aa Γ nt n0 (.ops all l::k) Q ((t,X)::env) H)(hg:o.guard=none:=by rfl)(hd:o.dst=some t:=by rfl)(ht:Nat.ble (t+1) nt=true:=by rfl)(hcall:eU Γ env o.op=some (f,args):=by rfl)(hab:AV.dF 0 args=true:=by rfl)(hb:X.bnd 0=true:=by rfl):aa Γ nt n0 (.ops all (o::l)::k) Q env H:=aa.SD hR hg hd ht hcall hab hb h
theorem aa.PF{all:Array Oper}{o:Oper}{l:List Oper}{t f:Nat}{args:List AV}{X:AV}{v:Value}(hR:ACalls Γ f args [] (fun r H=>r=X∧H=[]))(hg:o.guard=none)(hd:o.dst=some t)(ht:Nat.ble (t+1) nt=true)
  (hcall:eU Γ env o.op=some (f,args)) (hab:AV.dF 0 args=true) (hb:X.bnd 0=true) (hv:X.iQ=some v) (h:aa Γ nt n0 (.qops all l::k) Q ((t,X)::env) H):aa Γ nt n0 (.qops all (o::l)::k) Q env H :=
 aa.BU X hR hg hd ht hcall hab (fun r' H' h=>h.1) hv hb h
theorem aa.aR{all:Array Oper}{o:Oper}{l:List Oper}{t f:Nat}{args:List AV}{X:AV}{v:Value}(hR:ACalls Γ f args [] (fun r H=>r=X∧H=[]))(h:aa Γ nt n0 (.qops all l::k) Q ((t,X)::env) H)(hg:o.guard=none:=by rfl)(hd:o.dst=some t:=by rfl)(ht:Nat.ble (t+1) nt=true:=by rfl)(hcall:eU Γ env o.op=some (f,args):=by rfl)(hab:AV.dF 0 args=true:=by rfl)(hb:X.bnd 0=true:=by rfl)(hv:X.iQ=some v:=by rfl):aa Γ nt n0 (.qops all (o::l)::k) Q env H:=aa.PF hR hg hd ht hcall hab hb hv h
theorem aa.SE{all:Array Oper}{o:Oper}{l:List Oper}{t f:Nat}{args cargs:List AV}{X:AV}{Hc Y:List aN}(ρ:List Nat)(hR:ACalls Γ f cargs Hc (fun r H=>r=X∧H=Y))(hg:o.guard=none)(hd:o.dst=some t)(ht:Nat.ble (t+1) nt=true)
  (hcall:eU Γ env o.op=some (f,args)) (hargs:args=AV.jy ρ cargs) (hab:AV.dF ρ.length cargs=true) (hn:ρ.Nodup) (hp:mi ρ H=some (Hc.map (aN.ren ρ))) (hb:dZ ρ.length Hc=true)
  (h:aa Γ nt n0 (.ops all l::k) Q ((t,AV.ren (names ρ H.length Y.length) X)::env) (iw ρ (Y.map (aN.ren (names ρ H.length Y.length))) H)):aa Γ nt n0 (.ops all (o::l)::k) Q env H:=by
 refine aa.call ρ hR hg hd ht hcall hargs hab hn hp hb ?_;rintro r Hc' ⟨rfl,rfl⟩ _;exact⟨_,_,rfl,rfl,h⟩
def immOf(W:World)(b:Nat):List Value:=match W.heap[b]? with|some (.cells cs _ _)=>cs.toList|_=>[]
def aO.start(W:World):aO:={ base:=W,imm0:=immOf W,own0:=fun _=>False,imm:=immOf W,loc:=fun _=>none,fl:=fun _ _=>none }
theorem bM.start{gl:List (Nat×List D)}(W:World)(hgl:∀g cs,(g,cs)∈gl→DRel (immOf W) (.pointer (some ⟨g,0,none⟩)) (.iptr cs)):bM gl (aO.start W) [] W:=by
 refine⟨rfl,rfl,rfl,Nat.le_refl _,fun b _ _=>⟨rfl,rfl⟩,fun b i hi=>?_,fun id o h=>by simp at h,fun id o b h=>by simp at h,fun id o id' o' b h=>by simp at h,fun id _=>⟨rfl,fun _=>rfl⟩,hgl⟩;have hi':i<(immOf W b).length:=hi;show W.cell? ⟨b,i,none⟩=some (gv (immOf W b) i);cases hb:W.heap[b]? with
 |none=>simp[immOf,hb]at hi'
 |some x =>
  cases x<;>simp only[immOf,hb]at hi' ⊢<;>try (simp at hi';done)
  rename_i cs e fr;have:i<cs.size:=by simpa using hi'
  simp[World.cell?,hb,gv,List.getD,this]
theorem ACalls.top{f:FuncId}{args:List D}(h:ACalls Γ f (args.map .d) [] (fun r H=>r = .d (.bool true)∧H=[]))(W:World)(vs:Array Value)(hl:vs.size=args.length)
  (hA:∀(i:Nat) (c:D),args[i]?=some c→DRel (immOf W) (gv vs.toList i) c) (hgl:∀g cs,(g,cs)∈Γ.gl→DRel (immOf W) (.pointer (some ⟨g,0,none⟩)) (.iptr cs)) :
  Calls Γ.P f vs W fun e w'=>e = .returned (.bool true)∧Below W.heap.size W w':=by
 refine (h.2 (aO.start W) W vs (bM.start W hgl) ⟨by simpa using hl,fun i c hc=>?_⟩).mono ?_
 ·rw[List.getElem?_map]at hc;cases hq:args[i]? with
  |none=>simp[hq]at hc
  |some x=>simp[hq]at hc;subst hc;exact .d _ _ (hA i x hq)
 ·rintro e w' ⟨v,r,H',G',rfl,⟨rfl,rfl⟩,_,hle,hv,hW'⟩;refine⟨by rw[hv.fT],?_⟩;have b0:G'.base=W:=hle.base;have o0:∀b,¬G'.own0 b:=fun b h=>by rw[hle.own0]at h;exact h
  exact⟨by rw[hW'.os,b0],by rw[hW'.tape,b0],by rw[hW'.output,b0],by have:=hW'.size;rwa [b0]at this,fun b hb=>by have:=(hW'.old b (by rw[b0];exact hb) (o0 b)).1;rwa [b0]at this⟩
end
end
section
open Go Go.RowKit
def dD(T:List (Nat×TI))(fs:List (Nat×Nat))(i:Nat):Option (Nat×Nat) :=
 match fs[i]? with
 |some (o,ft)=>match aY T ft with|some ti=>some (o,ti.size)|none=>none
 |none=>none
def PN(n:Nat)(i:Nat):Option (Nat×Nat):=some (i*n,n)
def Fx(T:List (Nat×TI)):Sh→Option (Nat→Option (Nat×Nat))
 | .struct fs=>some (dD T fs)
 | .array _ e=>match aY T e with|some ti=>some (PN ti.size)|none=>none
 |_=>none
def CQ(pl:Nat→Option (Nat×Nat)):List (Nat×AV)→List AV→Option (List AV)
 |[],cs=>some cs
 | (i, u) :: r, cs => match u.frc with
  |some (_,v)=>match pl i with
   |some (o,n)=>bif Nat.beq v.cells.length n&&Nat.ble (o+n) cs.length&&iK v.cells then CQ pl r (iN cs o v.cells) else none
   |none=>none
  |none=>none
def rX(Γ:Ctx)(env:Env)(t:Nat)(parts:Array (Nat×Operand)):Option AV :=
 match aY Γ.T t with
 | some ti => match Fx Γ.T ti.sh with
  |some pl=>match CQ pl (parts.toList.map fun p=>(p.1,ev Γ env p.2)) (ti.zero.map .d)with
   |some cs=>some (sW cs)
   |none=>none
  |none=>none
 |none=>none
theorem qZ{P:Program}:∀{fields:List Field} {fs:List (Nat×Nat)},eQ P fields fs=true →
  ∃places,fields.mapM (fun f=>(P.info? f.type).map fun i=>(f.offset,i.size))=some places∧∀(i o t:Nat) (inf:TypeInfo),fs[i]?=some (o,t)→P.info? t=some inf→places[i]?=some (o,inf.size)
 |[],[],_=>⟨[],by simp,by simp⟩
 |[],_::_,h=>by simp[eQ]at h
 |_::_,[],h=>by simp[eQ]at h
 | f :: fields, (o, t) :: fs, h => by
  simp only[eQ,Bool.and_eq_true,beq_iff_eq]at h;obtain⟨⟨⟨h1,h2⟩,h3⟩,h4⟩:=h;obtain⟨places,p1,p2⟩:=qZ h4;cases hi:P.info? f.type with
  |none=>rw[hi]at h3;cases h3
  | some inf =>
   refine⟨(f.offset,inf.size)::places,by simp[List.mapM_cons,hi,p1],fun i o' t' inf' hg hi'=>?_⟩;cases i with
   |zero =>
    simp only[List.getElem?_cons_zero,Option.some.injEq,Prod.mk.injEq]at hg ⊢;obtain⟨rfl,rfl⟩:=hg;rw[←h2,hi]at hi';cases hi';exact⟨h1,rfl⟩
   |succ i=>simpa using p2 i o' t' inf' (by simpa using hg) hi'
section
variable {Γ:Ctx}{nt n0:Nat}{k:List It}{Q:Post}{env:Env}{H:List aN}{G:aO}{w w':World}{a:Act}
theorem CP(hW:bM Γ.gl G H w)(hF:df G nt a.tmps env){pl pl':Nat→Option (Nat×Nat)}(hpl:∀i x,pl i=some x→pl' i=some x):∀(l:List (Nat×Operand)) {cs cs':List AV} {cur:Array Value},
  cur.size=cs.length→(∀c∈cs,c.one=true)→(∀(i:Nat) (c:AV),cs[i]?=some c→bA G (gv cur.toList i) c)→CQ pl (l.map fun p=>(p.1,ev Γ env p.2)) cs=some cs' →
  ∃r,Instr.fill pl' cur (l.map fun p=>(p.1,a.eval p.2))=some r∧r.size=cs'.length∧(∀c∈cs',c.one=true)∧∀(i:Nat) (c:AV),cs'[i]?=some c→bA G (gv r.toList i) c
 |[],cs,cs',cur,h1,h2,h3,h=>by
  simp only[List.map_nil,CQ,Option.some.injEq]at h;subst h;exact⟨cur,rfl,h1,h2,h3⟩
 | p :: l, cs, cs', cur, h1, h2, h3, h => by
  simp only[List.map_cons,CQ,jP]at h;split at h
  case h_2=>cases h
  rename_i o n hp;cases hb:(Nat.beq (ev Γ env p.2).cells.length n&&Nat.ble (o+n) cs.length&&iK (ev Γ env p.2).cells)with
  |false=>rw[hb]at h;cases h
  | true =>
   rw[hb,cond_true]at h;simp only[Bool.and_eq_true]at hb;obtain⟨⟨b1,b2⟩,b3⟩:=hb;have b1:=Nat.eq_of_beq_eq_true b1;have b2:=Nat.le_of_ble_eq_true b2;obtain⟨c1,c2⟩:=om (bN hW hF p.2) b3;have hput:=Jt o (a.eval p.2).cells cur (by omega);have hle:o+(ev Γ env p.2).cells.length≤cs.length:=by omega
   have hgetc:∀i,(((a.eval p.2).cells.zipIdx.foldl (fun cs (x:Value×Nat)=>cs.setIfInBounds (o+x.2) x.1) cur).toList)[i]?=if o≤i∧i<o+(a.eval p.2).cells.size then (a.eval p.2).cells[i-o]? else cur[i]?:=fun i=>by
    rw[Array.getElem?_toList];exact hput.2 i
   obtain⟨r,r1,r2⟩:=CP hW hF hpl l (cs:=iN cs o (ev Γ env p.2).cells) (cur:=(a.eval p.2).cells.zipIdx.foldl (fun cs (x:Value×Nat)=>cs.setIfInBounds (o+x.2) x.1) cur)
    (by rw[hput.1,h1];simp[iN];omega)
    (fun c hc => by
     unfold iN at hc;simp only[List.mem_append]at hc;rcases hc with (hc|hc)|hc
     ·exact h2 c (List.mem_of_mem_take hc)
     ·exact jQ b3 c hc
     ·exact h2 c (List.mem_of_mem_drop hc))
    (fun i c hc => by
     unfold iN at hc;rw[l9 hle]at hc;simp only[gv,List.getD];rw[hgetc];split at hc
     ·rw[if_neg (by omega),←Array.getElem?_toList];exact h3 i c hc
     ·split at hc
      ·rw[if_pos (by omega),←Array.getElem?_toList];exact c2 _ c hc
      ·rw[if_neg (by omega),←Array.getElem?_toList];exact h3 i c hc) h
   refine⟨r,?_,r2⟩;simp only[List.map_cons,Instr.fill];rw[hpl _ _ hp];simp only;rw[if_neg (by simp;omega)];exact r1
theorem uO(hW:bM Γ.gl G H w)(hF:df G nt a.tmps env){o:Oper}{t:Nat}{parts:Array (Nat×Operand)}{v:AV}(hop:o.op = .build t parts)(h:rX Γ env t parts=some v):
  ∃u,bA G u v∧∀w':World,(execOp a.eval o).run Γ.P w' = .ok (.value u) w':=by
 unfold rX at h;split at h
 case h_2=>cases h
 rename_i ti hT;split at h
 case h_2=>cases h
 rename_i pl hpl;split at h
 case h_2=>cases h
 rename_i cs hf;cases h;obtain⟨f⟩:=Γ.ty hT;obtain⟨z1,z2,z3⟩:=iq (imm:=G.imm) f.zok;have hfill:∀pl':Nat→Option (Nat×Nat),(∀i x,pl i=some x→pl' i=some x)→∃r,Instr.fill pl' f.z.cells (parts.toList.map fun p=>(p.1,a.eval p.2))=some r∧bA G (.agg r) (sW cs):=fun pl' hpl'=>by
  obtain⟨r,r1,r2,r3,r4⟩:=CP hW hF hpl' parts.toList (cs:=ti.zero.map .d) (cur:=f.z.cells) (by simp at z1 ⊢;omega)
   (fun c hc=>by obtain⟨y,hy,rfl⟩:=List.mem_map.1 hc;exact z2 y hy)
   (fun i c hc => by
    rw[List.getElem?_map]at hc;cases hq:ti.zero[i]? with
    |none=>simp[hq]at hc
    |some y=>simp[hq]at hc;subst hc;exact .d _ _ (z3 i y hq)) hf
  exact⟨r,r1,Cy r2 r3 r4⟩
 have hb:∃r,Γ.P.built t (parts.toList.map fun p=>(p.1,a.eval p.2))=some r∧bA G (.agg r) (sW cs):=by
  have hsh:=f.sh;have hund:=f.und;have hinf:=f.info;have hz:=f.hz
  revert hpl hsh
  generalize ti.sh=sh;intro hpl hsh;unfold Fx at hpl;split at hpl
  ·cases hpl;rename_i fs;cases hd:f.d<;>rw[hd]at hsh<;>simp only[qX]at hsh<;>try (cases hsh;done)
   rename_i fields;obtain⟨places,p1,p2⟩:=qZ hsh
   obtain⟨r,r1,r2⟩:=hfill (places.toArray[·]?) (fun i x hx=>by
    unfold dD at hx;split at hx
    case h_2=>cases hx
    rename_i o' ft hfs;split at hx
    case h_2=>cases hx
    rename_i ti' hft;cases hx;obtain⟨f'⟩:=Γ.ty hft;have:=p2 i o' ft f'.i hfs f'.info;rw[f'.size]at this
    simpa using this)
   refine⟨r,?_,r2⟩;unfold Program.built;rw[hinf,hund,hd];simp only[hz,p1];exact r1
  ·split at hpl
   case h_2=>cases hpl
   rename_i te hte;cases hpl;rename_i n e;cases hd:f.d<;>rw[hd]at hsh<;>simp only[qX]at hsh<;>try (cases hsh;done)
   rename_i n' e';simp only[Bool.and_eq_true,beq_iff_eq]at hsh;obtain⟨rfl,rfl⟩:=hsh;obtain⟨f'⟩:=Γ.ty hte;obtain⟨r,r1,r2⟩:=hfill (fun i=>some (i*f'.i.size,f'.i.size)) (fun i x hx=>by rw[f'.size];exact hx);refine⟨r,?_,r2⟩;unfold Program.built;rw[hinf,hund,hd];simp only[hz,f'.info];exact r1
  ·cases hpl
 obtain⟨r,r1,r2⟩:=hb;refine⟨.agg r,r2,fun w'=>?_⟩;unfold execOp;rw[hop];have:(parts.map fun (i,x)=>(i,a.eval x)).toList=parts.toList.map fun p=>(p.1,a.eval p.2):=by simp
 have hr:=run_build (P:=Γ.P) w' t (parts.map fun (i,x)=>(i,a.eval x)) r (by rw[this];exact r1);simp[hr]
theorem aa.build{all:Array Oper}{o:Oper}{l:List Oper}{t T:Nat}{parts:Array (Nat×Operand)}{v:AV}(hop:o.op = .build T parts)(hg:o.guard=none)(hd:o.dst=some t)(ht:Nat.ble (t+1) nt=true)
  (hb:rX Γ env T parts=some v) (h:aa Γ nt n0 (.ops all l::k) Q ((t,v)::env) H):aa Γ nt n0 (.ops all (o::l)::k) Q env H :=
 fun G0 G a w h0 hl hF hdf hW=>by
  obtain⟨u,hu,hr⟩:=uO hW hF hop hb;have hn:=h G0 G (a.put (some t) u) w h0 hl (hF.put ht hu) (by simp[Act.put,hdf]) hW;simp only[aZ]at hn ⊢;unfold wpList;rw[if_pos (ba hg)];refine .inl ?_;unfold Oper.wp;rw[hr w];simp only[Oper.upon,hd];exact hn
theorem aa.PG{all:Array Oper}{o:Oper}{l:List Oper}{t T:Nat}{parts:Array (Nat×Operand)}{v:AV}(hop:o.op = .build T parts)(hg:o.guard=none)(hd:o.dst=some t)(ht:Nat.ble (t+1) nt=true)
  (hb:rX Γ env T parts=some v) (h:aa Γ nt n0 (.qops all l::k) Q ((t,v)::env) H):aa Γ nt n0 (.qops all (o::l)::k) Q env H :=
 fun G0 G a w h0 hl hF hdf hW=>by
  obtain⟨u,hu,hr⟩:=uO hW hF hop hb;have hn:=h G0 G (a.put (some t) u) w h0 hl (hF.put ht hu) (by simp[Act.put,hdf]) hW;simp only[aZ]at hn ⊢;unfold wpQuiet;rw[if_pos (ba hg)];refine⟨u,fun w' hb=>?_,by rw[hd];exact hn⟩;unfold Oper.quietAt;rw[hr w'];exact⟨rfl,rfl⟩
theorem aa.BN(m:Nat){fn:Func}{R:AV→List aN→Prop}{r:AV}(hr:gy Γ env H fn.results.toList=some r)(hm:Nat.ble n0 m=true)(hl:Nat.ble m H.length=true)(hb:r.bnd m=true)
  (ho:dZ m (H.take m)=true) (h:R r (H.take m)):aa Γ nt n0 (.code .ret::k) (qY Γ fn n0 R) env H :=
 aa.ret ⟨r,r,m,hr,cJ.refl _,Nat.le_of_ble_eq_true hm,Nat.le_of_ble_eq_true hl,hb,gb ho,h⟩
theorem LH{n:Int}(h:(Lit.int .i64 n).wf=true): -9223372036854775808≤n∧n≤9223372036854775807:=(Lit.wf_int_iff .i64 n).1 h
theorem qh{W:World}{g j:Nat}{v:Value}(h:W.cell? ⟨g,j,none⟩=some v):j<(immOf W g).length∧gv (immOf W g) j=v:=by
 cases hb:W.heap[g]? with
 |none=>simp[World.cell?,hb]at h
 |some x =>
  cases x<;>simp only[immOf,hb,World.cell?]at h ⊢<;>try (simp at h;done)
  rename_i cs e fr;have h':cs[j]?=some v:=by simpa using h
  have hj:=aI (l:=cs.toList) (i:=j) (x:=v) (by simpa using h');exact⟨hj,by simp[gv,List.getD,h']⟩
theorem glob_of_tab{W:World}{g:Nat}{k:IntKind}{zs:List Int}(h:∀i,i<zs.length→W.cell? ⟨g,i,none⟩=some (.int k (zs.getD i 0))):
  DRel (immOf W) (.pointer (some ⟨g,0,none⟩)) (.iptr (zs.map fun z=>D.int k z)):=by
 refine .iptr g 0 _ ?_ (fun c hc=>by obtain⟨z,_,rfl⟩:=List.mem_map.1 hc;rfl) fun j c hc=>?_
 ·simp only[Nat.zero_add,List.length_map];rcases Nat.eq_zero_or_pos zs.length with h0|h0
  ·omega
  ·have:=(qh (h (zs.length-1) (by omega))).1;omega
 ·rw[List.getElem?_map]at hc;cases hz:zs[j]? with
  |none=>simp[hz]at hc
  |some z =>
   simp[hz]at hc;subst hc;have hj:=aI hz;have:=(qh (h j hj)).2;rw[Nat.zero_add,this];have e:zs.getD j 0=z:=by simp[List.getD,hz]
   rw[e];exact .int k z
end
theorem nm:(∀{α:Type} (a:α) (l:List α),(a::l).length=l.length+1)∧(∀{α:Type},([]:List α).length=0)∧(∀{α:Type} (a:α) (l m:List α),(a::l)++m=a::(l++m))∧(∀{α:Type} (l:List α),[]++l=l) ∧
  (∀{α β:Type} (f:α→β) (a:α) (l:List α),List.map f (a::l)=f a::List.map f l)∧(∀{α β:Type} (f:α→β),List.map f []=[])∧(∀{α:Type} (a x:α) (l:List α),(a::l).set 0 x=x::l)∧(∀{α:Type} (a x:α) (l:List α) (i:Nat),(a::l).set (i+1) x=a::l.set i x) ∧
  (∀{α:Type} (a:α) (l:List α) (i:Nat),(a::l).take (i+1)=a::l.take i)∧(∀{α:Type} (l:List α),l.take 0=[])∧(∀{α:Type} (a:α) (l:List α) (i:Nat),(a::l).drop (i+1)=l.drop i)∧(∀{α:Type} (l:List α),l.drop 0=l) :=
 ⟨fun _ _=>rfl,rfl,fun _ _ _=>rfl,fun _=>rfl,fun _ _ _=>rfl,fun _=>rfl,fun _ _ _=>rfl,fun _ _ _ _=>rfl,fun _ _ _=>rfl,fun l=>by cases l<;>rfl,fun _ _ _=>rfl,fun _=>rfl⟩
theorem nh:(∀{α:Type} (a:α) (l:List α),(a::l).length=l.length+1)∧(∀{α:Type},([]:List α).length=0)∧(∀{α:Type} (a:α) (l m:List α),(a::l)++m=a::(l++m))∧(∀{α:Type} (l:List α),[]++l=l)∧(∀{α:Type} (l:List α),l++[]=l) ∧
  (∀{α β:Type} (f:α→β) (a:α) (l:List α),List.map f (a::l)=f a::List.map f l)∧(∀{α β:Type} (f:α→β),List.map f []=[])∧(∀{α:Type} (a x:α) (l:List α),(a::l).set 0 x=x::l)∧(∀{α:Type} (a x:α) (l:List α) (i:Nat),(a::l).set (i+1) x=a::l.set i x) ∧
  (∀n:Nat,n-n=0)∧(∀s n:Nat,List.range' s (n+1) 1=s::List.range' (s+1) n 1)∧(∀s:Nat,List.range' s 0 1=[])∧(∀{α:Type} (a d:α) (l:List α),(a::l).getD 0 d=a)∧(∀{α:Type} (a d:α) (l:List α) (i:Nat),(a::l).getD (i+1) d=l.getD i d) :=
 ⟨fun _ _=>rfl,rfl,fun _ _ _=>rfl,fun _=>rfl,List.append_nil,fun _ _ _=>rfl,fun _=>rfl,fun _ _ _=>rfl,fun _ _ _ _=>rfl,Nat.sub_self,fun _ _=>rfl,fun _=>rfl,fun _ _ _=>rfl,fun _ _ _ _=>rfl⟩
theorem bT:(∀b:Bool,(true&&b)=b)∧(∀b:Bool,(false||b)=b)∧(∀a b:Bool,((a||b)=true)=(a=true∨b=true))∧(∀a b:Bool,((a&&b)=true)=(a=true∧b=true))∧(∀b:Bool,((!b)=true)=(b=false))∧(∀(p:Prop) [Decidable p],(decide p=true)=p)∧(∀(p:Prop) [Decidable p],(decide p=false)=¬p) :=
 ⟨Bool.true_and,Bool.false_or,fun a b=>by cases a<;>simp,fun a b=>by cases a<;>simp,fun b=>by cases b<;>simp,fun p _=>by simp,fun p _=>by simp⟩
theorem bF:(∀b:Bool,(true&&b)=b)∧(∀b:Bool,(false||b)=b)∧(∀a b:Bool,((a||b)=false)=(a=false∧b=false))∧(∀a b:Bool,((a&&b)=false)=(a=false∨b=false))∧(∀b:Bool,((!b)=false)=(b=true))∧(∀(p:Prop) [Decidable p],(decide p=true)=p)∧(∀(p:Prop) [Decidable p],(decide p=false)=¬p) :=
 ⟨Bool.true_and,Bool.false_or,fun a b=>by cases a<;>simp,fun a b=>by cases a<;>simp,fun b=>by cases b<;>simp,fun p _=>by simp,fun p _=>by simp⟩
theorem nz:(∀(cs:List AV) (o:Nat) (vs:List AV),iN cs o vs=cs.take o++vs++cs.drop (o+vs.length))∧(∀x,AV.cells (.d x)=x.cells.map .d)∧(∀c,AV.cells (.ag c)=c)∧(∀i o,AV.cells (.ptr i o)=[.ptr i o])∧(∀i n s j o,AV.cells (.eptr i n s j o)=[.eptr i n s j o])∧(∀s e i,AV.cells (.own s e i)=[.own s e i])∧(∀i n,AV.cells (.ms i n)=[.ms i n])∧(∀c,AV.cells (.cH c)=[.cH c])∧(∀f a b,AV.cells (.fn f a b)=[.fn f a b])∧(∀i,AV.cells (.mp i)=[.mp i])∧(∀i,AV.cells (.it i)=[.it i])∧(AV.cells .top=[.top]) ∧
 (∀c,D.cells (.agg c)=c)∧(∀b,D.cells (.bool b)=[.bool b])∧(∀k n,D.cells (.int k n)=[.int k n])∧(∀s,D.cells (.str s)=[.str s])∧(D.cells .nilp=[.nilp])∧(D.cells .nilm=[.nilm])∧(D.cells .aU=[.aU])∧(D.cells .nilf=[.nilf])∧(∀s e,D.cells (.sl s e)=[.sl s e])∧(∀c,D.cells (.iptr c)=[.iptr c])∧(D.cells .top=[.top]):=by
 refine⟨fun _ _ _=>rfl,?_⟩;repeat' (first|exact rfl|exact fun _=>rfl|exact fun _ _=>rfl|exact fun _ _ _=>rfl|exact fun _ _ _ _ _=>rfl|apply And.intro)
theorem ny:(∀(r:List Nat) (h n:Nat),names r h n=r++List.range' h (n-r.length))∧(∀(i:Nat) (r:List Nat) (o:aN) (c H:List aN),iw (i::r) (o::c) H=iw r c (H.set i o))∧(∀c H:List aN,iw [] c H=H++c)∧(∀(i:Nat) (r:List Nat) (H:List aN),iw (i::r) [] H=H) ∧
 (∀(r:List Nat) i o,AV.ren r (.ptr i o) = .ptr (r.getD i 0) o)∧(∀(r:List Nat) i n s j o,AV.ren r (.eptr i n s j o) = .eptr (r.getD i 0) n s j o)∧(∀(r:List Nat) s e i,AV.ren r (.own s e i) = .own s e (r.getD i 0))∧(∀(r:List Nat) i n,AV.ren r (.ms i n) = .ms (r.getD i 0) n)∧(∀(r:List Nat) c,AV.ren r (.ag c) = .ag (AV.jy r c))∧(∀(r:List Nat) c,AV.ren r (.cH c) = .cH (AV.jy r c))∧(∀(r:List Nat) f a b,AV.ren r (.fn f a b) = .fn f (AV.jy r a) (AV.jy r b))∧(∀(r:List Nat) i,AV.ren r (.mp i) = .mp (r.getD i 0))∧(∀(r:List Nat) i,AV.ren r (.it i) = .it (r.getD i 0))∧(∀(r:List Nat) x,AV.ren r (.d x) = .d x)∧(∀(r:List Nat),AV.ren r .top = .top) ∧
 (∀(r:List Nat),AV.jy r []=[])∧(∀(r:List Nat) a l,AV.jy r (a::l)=AV.ren r a::AV.jy r l)∧(∀(r:List Nat) c,aN.ren r (.cells c) = .cells (AV.jy r c))∧(∀(r:List Nat) e s n,aN.ren r (.front e s n) = .front e s n)∧(∀(r:List Nat) e s n,aN.ren r (.arr e s n) = .arr e s n)∧(∀(r:List Nat) e,aN.ren r (.map e) = .map e)∧(∀(r:List Nat) s p,aN.ren r (.siter s p) = .siter s p)∧(∀(r:List Nat),aN.ren r .gone = .gone):=by
 refine⟨fun _ _ _=>rfl,fun _ _ _ _ _=>by simp only[iw],fun c H=>by cases c<;>simp only[iw],fun _ _ _=>by simp only[iw],?_⟩;simp only[AV.ren,AV.jy,aN.ren,implies_true,and_self]
def IU:List It→Option (List It)
 | .code (.seq x y)::k=>some (.code x :: .code y::k)
 | .code (.block i x)::k=>some (.code x :: .blk i::k)
 | .blk _::k=>some k
 | .code .skip::k=>some k
 | .ops _ []::k=>some k
 | .qops _ []::k=>some k
 | .sops _ []::k=>some k
 | .code (.region _ all false)::k=>some (.ops all all.toList::k)
 |_=>none
theorem aa.st{Γ:Ctx}{nt n0:Nat}{k k':List It}{Q:Post}{env:Env}{H:List aN}(h:IU k=some k')(hn:aa Γ nt n0 k' Q env H):aa Γ nt n0 k Q env H:=by
 unfold IU at h;split at h<;>first|cases h|skip
 ·exact aa.seq hn
 ·exact aa.block hn
 ·exact aa.blk hn
 ·exact aa.skip hn
 ·exact aa.nil hn
 ·exact aa.SX hn
 ·exact aa.SU hn
 ·exact aa.region _ (by simp) hn
theorem aa.aF{Γ:Ctx}{nt n0:Nat}{k k':List It}{Q:Post}{env:Env}{H:List aN}(hn:aa Γ nt n0 k' Q env H)(h:IU k=some k':=by rfl):aa Γ nt n0 k Q env H:=aa.st h hn
theorem tn:(∀n:Nat,((n:Int)).toNat=n)∧IntKind.bits .i64=64∧IntKind.bits .u8=8∧IntKind.bits .u32=32∧IntKind.bits .u64=64∧IntKind.bits .i32=32:=⟨Int.toNat_natCast,rfl,rfl,rfl,rfl,rfl⟩
section
open Go Go.RowKit
variable {Γ:Ctx}{nt n0:Nat}{k:List It}{Q:Post}{env:Env}{H:List aN}{G:aO}{w w':World}
theorem aa.aM{all:Array Oper}{o:Oper}{l:List Oper}{t T:Nat}{x:Operand}{v:AV}{bb:Prop}(h:bb)(hop:o.op = .box T x:=by rfl)(hg:o.guard=none:=by rfl)(hd:o.dst=some t:=by rfl)(ht:Nat.ble (t+1) nt=true:=by rfl)(hx':(ev Γ env x).frc=some (True,v):=by rfl)(ho:iK v.cells=true:=by rfl)(hbb:bb→aa Γ nt n0 (.ops all l::k) Q ((t, .ptr H.length 0)::env) (H++[.cells v.cells]):=by intro k;simp only[nm,nz,Nat.reduceAdd];exact k):aa Γ nt n0 (.ops all (o::l)::k) Q env H:=aa.box hop hg hd ht hx' ho (hbb h)
theorem aa.aD{all:Array Oper}{o:Oper}{l:List Oper}{T id off:Nat}{x y:Operand}{ti:TI}{v:AV}{cs:List AV}{bb:Prop}(h:bb)(hop:o.op = .store T x y:=by rfl)(hg:o.guard=none:=by rfl)(hd:o.dst=none:=by rfl)(hT:aY Γ.T T=some ti:=by rfl)(hx:ev Γ env x = .ptr id off:=by rfl)(hy':(ev Γ env y).frc=some (True,v):=by rfl)(hh:hget H id=some (.cells cs):=by rfl)(hs:Nat.beq v.cells.length ti.size=true:=by rfl)(ho:iK v.cells=true:=by rfl)(hle:off+ti.size≤cs.length:=by exact Nat.le_of_ble_eq_true rfl)(hbb:bb→aa Γ nt n0 (.ops all l::k) Q env (H.set id (.cells (iN cs off v.cells))):=by intro k;simp only[nm,nz,Nat.reduceAdd];exact k):aa Γ nt n0 (.ops all (o::l)::k) Q env H:=aa.store hop hg hd hT hx hy' hh hs ho hle (hbb h)
theorem aa.aH{all:Array Oper}{o:Oper}{l:List Oper}{t T:Nat}{ti:TI}{bb:Prop}(h:bb)(hop:o.op = .alloc T:=by rfl)(hg:o.guard=none:=by rfl)(hd:o.dst=some t:=by rfl)(ht:Nat.ble (t+1) nt=true:=by rfl)(hT:aY Γ.T T=some ti:=by rfl)(hbb:bb→aa Γ nt n0 (.ops all l::k) Q ((t, .ptr H.length 0)::env) (H++[.cells (ti.zero.map .d)]):=by intro k;simp only[nm,nz,Nat.reduceAdd];exact k):aa Γ nt n0 (.ops all (o::l)::k) Q env H:=aa.alloc hop hg hd ht hT (hbb h)
end
section
open Go Go.RowKit
variable {Γ:Ctx}{nt n0:Nat}{k:List It}{Q:Post}{env:Env}{H:List aN}{G:aO}{w w':World}{a:Act}
theorem aa.bG{all:Array Oper}{o:Oper}{l:List Oper}{t T:Nat}{parts:Array (Nat×Operand)}{v:AV}{bb:Prop}(h:bb)(hop:o.op = .build T parts:=by rfl)(hg:o.guard=none:=by rfl)(hd:o.dst=some t:=by rfl)(ht:Nat.ble (t+1) nt=true:=by rfl)(hb:rX Γ env T parts=some v:=by rfl)(hbb:bb→aa Γ nt n0 (.ops all l::k) Q ((t,v)::env) H:=by intro k;simp only[nm,nz,Nat.reduceAdd,sW,wG,AV.unD];exact k):aa Γ nt n0 (.ops all (o::l)::k) Q env H:=aa.build hop hg hd ht hb (hbb h)
theorem aa.BV{all:Array Oper}{o:Oper}{l:List Oper}{t T:Nat}{parts:Array (Nat×Operand)}{v:AV}{bb:Prop}(h:bb)(hop:o.op = .build T parts:=by rfl)(hg:o.guard=none:=by rfl)(hd:o.dst=some t:=by rfl)(ht:Nat.ble (t+1) nt=true:=by rfl)(hb:rX Γ env T parts=some v:=by rfl)(hbb:bb→aa Γ nt n0 (.qops all l::k) Q ((t,v)::env) H:=by intro k;simp only[nm,nz,Nat.reduceAdd,sW,wG,AV.unD];exact k):aa Γ nt n0 (.qops all (o::l)::k) Q env H:=aa.PG hop hg hd ht hb (hbb h)
end
section
open Go Go.RowKit
variable {Γ:Ctx}{nt n0:Nat}{k:List It}{Q:Post}{env:Env}{H:List aN}{G:aO}{w w':World}
theorem aa.aj{all:Array Oper}{o:Oper}{l:List Oper}{t f:Nat}{args cargs:List AV}{X:AV}{Hc Y:List aN}(ρ:List Nat)(hR:ACalls Γ f cargs Hc (fun r H=>r=X∧H=Y)){bb:Prop}(h:bb)(hg:o.guard=none:=by rfl)(hd:o.dst=some t:=by rfl)(ht:Nat.ble (t+1) nt=true:=by rfl)(hcall:eU Γ env o.op=some (f,args):=by rfl)(hargs:args=AV.jy ρ cargs:=by rfl)(hab:AV.dF ρ.length cargs=true:=by rfl)(hn:ρ.Nodup:=by decide)(hp:mi ρ H=some (Hc.map (aN.ren ρ)):=by rfl)(hb:dZ ρ.length Hc=true:=by rfl)(hbb:bb→aa Γ nt n0 (.ops all l::k) Q ((t,AV.ren (names ρ H.length Y.length) X)::env) (iw ρ (Y.map (aN.ren (names ρ H.length Y.length))) H):=by intro k;simp only[ny,nh,Nat.reduceAdd,Nat.reduceSub];exact k):aa Γ nt n0 (.ops all (o::l)::k) Q env H:=aa.SE ρ hR hg hd ht hcall hargs hab hn hp hb (hbb h)
end
section
variable {Γ:Ctx}{nt n0:Nat}{k:List It}{Q:Post}{env:Env}{H:List aN}{G:aO}{w:World}
theorem ACalls.en{f:FuncId}{fn:Func}{body:Code}{n:Nat}{args:List AV}{R:AV→List aN→Prop}(hf:Γ.P.funcs[f]?=some fn)(hn:fn.ntmps=n){bb:Prop}(h:bb)(hb:fn.body=some body:=by rfl)(hname:qp Γ.P f=true:=by kernel_rfl)(hle:Nat.ble args.length n=true:=by rfl)(hbb:bb→aa Γ n H.length [.code body] (qY Γ fn H.length R) (qx 0 args) H:=by intro k;simp only[qx,nm,Nat.reduceAdd];exact k):ACalls Γ f args H R:=ACalls.enter hf hb hn hname hle (hbb h)
end
end
end Go.Proofs.YtbpednchkndocaaGreatDoor.Av
