/- The writer of bits, plain: what one more digit does to the bytes. The writer of bits: New, bit. The writer of bits: plain, Put, Add, Len, Text. -/
import Derived.Test.YtbpednchkndocaaGreatDoorPd
import Derived.Test.YtbpednchkndocaaGreatDoorPn
set_option linter.unusedVariables false
set_option linter.unusedSimpArgs false
set_option maxRecDepth 100000
set_option maxHeartbeats 64000000
namespace Go.Proofs.YtbpednchkndocaaGreatDoor.Av
namespace Wr
open Go Bt
theorem uN (w:List UInt8):∀k,gH (w++List.replicate k 48)=gH w*2^k
 |0=>by simp
 |k+1=>by
  rw[List.replicate_succ',←List.append_assoc,kO,uN w k,Int.pow_succ]
  have:(((48:UInt8).toNat:Nat):Int)=48:=rfl
  have e:gH w*(2^k*2)=gH w*2^k*2:=by rw[Int.mul_assoc]
  rw[this,e]
  generalize gH w*2^k=x at *
  omega
def gU (d:List UInt8):UInt8:=UInt8.ofNat (gH (d++List.replicate (8 - d.length) 48)).toNat
theorem zM (w:List UInt8):dx w=(List.range ((w.length+7) / 8)).map fun t=>gU ((w.drop (8*t)).take 8):=by
 have h1:=Gi w
 obtain⟨p1,p2⟩:=CO w.length
 have h2:(qo w).length / 8=(w.length+7) / 8:=by omega
 unfold dx Gj
 rw[h2]
 apply List.map_congr_left
 intro t ht
 rw[List.mem_range]at ht
 unfold gU
 congr 2
 unfold qo
 rw[List.drop_append,List.take_append]
 by_cases hl:8*(t+1)≤w.length
 ·have e1:((w.drop (8*t)).take 8).length=8:=by rw[List.length_take,List.length_drop];omega
  rw[e1,List.length_drop]
  rw[show 8 - (w.length - 8*t)=0 by omega]
  simp
 ·have e1:(w.drop (8*t)).take 8=w.drop (8*t):=List.take_of_length_le (by rw[List.length_drop];omega)
  rw[e1,List.length_drop,show 8*t - w.length=0 by omega,List.drop_zero,List.take_replicate]
  congr 2
  congr 1
  omega
theorem jm (w:List UInt8):(dx w).length=(w.length+7) / 8:=by rw[zM];simp
theorem l4 (w:List UInt8) (t:Nat) (h:t<(w.length+7) / 8):(dx w)[t]?=some (gU ((w.drop (8*t)).take 8)):=by
 rw[zM];simp[h]
def ji (w:List UInt8):List UInt8:=w.drop (8*(w.length / 8))
theorem DW (w:List UInt8):(ji w).length=w.length%8:=by unfold ji;rw[List.length_drop];omega
theorem wD (w:List UInt8) (d:UInt8) (t:Nat) (h:t<w.length / 8):(dx (w++[d]))[t]?=(dx w)[t]?:=by
 rw[l4 _ _ (by simp;omega),l4 _ _ (by omega)]
 congr 2
 rw[List.drop_append_of_le_length (by omega),List.take_append_of_le_length (by rw[List.length_drop];omega)]
theorem zL (w:List UInt8) (d:UInt8) (h:w.length%8=0):dx (w++[d])=dx w++[gU [d]]:=by
 apply List.ext_getElem?
 intro t
 have hl:=jm w
 rcases Nat.lt_trichotomy t (w.length / 8)with h1|h1|h1
 ·rw[wD w d t h1,List.getElem?_append_left (by omega)]
 ·subst h1
  rw[l4 _ _ (by simp;omega),List.getElem?_append_right (by omega),show w.length / 8 - (dx w).length=0 by omega]
  have e:8*(w.length / 8)=w.length:=by omega
  rw[e,List.drop_left];rfl
 ·rw[List.getElem?_eq_none (by rw[jm];simp;omega),List.getElem?_eq_none (by simp;omega)]
theorem zK (w:List UInt8) (d:UInt8) (h:w.length%8≠0):dx (w++[d])=(dx w).set (w.length / 8) (gU (ji w++[d])):=by
 have hl:=jm w
 have hl2:=jm (w++[d])
 simp only[List.length_append,List.length_singleton]at hl2
 apply List.ext_getElem?
 intro t
 rcases Nat.lt_trichotomy t (w.length / 8)with h1|h1|h1
 ·rw[wD w d t h1,List.getElem?_set_ne (by omega)]
 ·subst h1
  rw[l4 _ _ (by simp;omega),List.getElem?_set_self (by omega),List.drop_append_of_le_length (by omega),List.take_of_length_le (by simp;omega)]
  rfl
 ·rw[List.getElem?_eq_none (by omega),List.getElem?_eq_none (by simp;omega)]
theorem BC (w:List UInt8) (h:w.length%8≠0):(dx w)[w.length / 8]?=some (gU (ji w)):=by
 rw[l4 _ _ (by omega),List.take_of_length_le (by rw[List.length_drop];omega)]
 rfl
theorem DX (w:List UInt8) (h:w.all bZ=true):(ji w).all bZ=true:=by
 rw[List.all_eq_true]at h ⊢
 exact fun x hx=>h x (List.mem_of_mem_drop hx)
theorem wY (d:List UInt8) (hd:d.all bZ=true) (hl:d.length≤8):((gU d).toNat:Int)=gH d*2^(8 - d.length)∧0≤gH d:=by
 obtain⟨b0,b1⟩:=CQ d hd
 have e:=uN d (8 - d.length)
 have hp:(0:Int)<2^(8 - d.length):=Int.pow_pos (by decide)
 have h2:gH d*2^(8 - d.length)<256:=by
  have h3:gH d*2^(8 - d.length)<2^d.length*2^(8 - d.length):=Int.mul_lt_mul_of_pos_right b1 hp
  rw[←Int.pow_add,show d.length+(8 - d.length)=8 by omega]at h3
  exact h3
 have h4:0≤gH d*2^(8 - d.length):=Int.mul_nonneg b0 (by omega)
 refine⟨?_,b0⟩
 unfold gU
 rw[e]
 simp only[UInt8.toNat_ofNat',Nat.reducePow]
 generalize gH d*2^(8 - d.length)=x at *
 omega
theorem JZ (d:List UInt8) (hd:d.all bZ=true) (hl:d.length<8):gU (d++[48])=gU d:=by
 unfold gU
 congr 2
 rw[List.append_assoc,List.length_append,List.length_singleton]
 congr 1
 rw[show 8 - d.length=(8 - (d.length+1))+1 by omega,List.replicate_succ];rfl
theorem JY (d:List UInt8) (hd:d.all bZ=true) (hl:d.length<8):((gU d).toNat |||2^(7 - d.length))=(gU (d++[49])).toNat:=by
 obtain⟨v1,b1⟩:=wY d hd (by omega)
 obtain⟨v2,_⟩:=wY (d++[49]) (by rw[List.all_append,hd];rfl) (by rw[List.length_append];simp;omega)
 rw[kO,List.length_append,List.length_singleton]at v2
 obtain⟨n,hn⟩:=Int.eq_ofNat_of_zero_le b1
 rw[hn]at v1 v2
 have e49:(((49:UInt8).toNat:Nat):Int)=49:=rfl
 rw[e49]at v2
 have e1:(gU d).toNat=2^(8 - d.length)*n:=by
  have:((2^(8 - d.length)*n:Nat):Int)=(n:Int)*2^(8 - d.length):=by rw[Int.natCast_mul,Int.natCast_pow,Int.mul_comm];rfl
  rw[←this]at v1
  exact Int.ofNat.inj v1
 have e2:(gU (d++[49])).toNat=(2*n+1)*2^(7 - d.length):=by
  have:(((2*n+1)*2^(7 - d.length):Nat):Int)=(2*(n:Int)+(49 - 48))*2^(8 - (d.length+1)):=by
   rw[Int.natCast_mul,Int.natCast_pow,show 8 - (d.length+1)=7 - d.length by omega]
   congr 1
  rw[←this]at v2
  exact Int.ofNat.inj v2
 rw[e1,e2,←Nat.two_pow_add_eq_or_of_lt (Nat.pow_lt_pow_right (by decide) (by omega))]
 rw[show 8 - d.length=(7 - d.length)+1 by omega,Nat.pow_succ,Nat.add_mul,Nat.one_mul]
 congr 1
 rw[Nat.mul_comm (2^(7 - d.length)) 2,Nat.mul_assoc,Nat.mul_assoc,Nat.mul_comm n]
end Wr
namespace Wr
open Go Bt
attribute [local irreducible] aa ACalls
variable {gl:List (Nat×List D)}
abbrev WO (w:List UInt8):List aM:=[.cells [.ms 1 (bO (dx w)).length,I w.length], .arr 5 1 (bO (dx w))]
def dgB (b:Bool):UInt8:=if b=true then 49 else 48
theorem I9 (P:List UInt8) (i:Nat) (b:UInt8) (h:P[i]?=some b):(bO P)[i]?=some (.int .u8 (b.toNat:Int)):=by simp[bO,h]
theorem I8 (P:List UInt8) (i:Nat) (b:UInt8):(bO P).set i (.int .u8 (b.toNat:Int))=bO (P.set i b):=by simp[bO,List.map_set]
theorem yt {es fs:List D} {m:Int} {n:Nat} (h:es=fs) (hm:m=n) (x:Nat) (hx:x=fs.length):([.cells [.ms 1 x,I m], .arr 5 1 es]:List aM)=[.cells [.ms 1 fs.length,I n], .arr 5 1 fs]:=by rw[h,hm,hx]
theorem o48:bO [gU [dgB false]]=[.int .u8 0]:=rfl
theorem o49:bO [gU [dgB true]]=[.int .u8 128]:=rfl
theorem set_self {α:Type} {l:List α} {i:Nat} {x:α} (h:l[i]?=some x):l.set i x=l:=by
 apply List.ext_getElem?
 intro j
 by_cases hj:i=j
 ·subst hj;rw[List.getElem?_set_self (aJ h),h]
 ·rw[List.getElem?_set_ne hj]
attribute [local irreducible] bO dx gU
theorem Dz (w:List UInt8) (one:Bool) (hd:w.all bZ=true) (hl:w.length≤1000000000):ACalls (cxg gl) 78 [.ptr 0 0,B one] (WO w) (fun r H=>r = .bK []∧H=WO (w++[dgB one])):=by
 have hP:=jm w
 have hO:=eZ (dx w)
 unfold WO
 have hin:(w++[dgB one]).length=w.length+1:=by simp
 by_cases h8:w.length%8=0
 ·have hs:=zL w (dgB one) h8
  cases one
  ·have e:bO (dx w)++[.int .u8 0]=bO (dx (w++[dgB false])):=by rw[hs,jP,o48]
   refine ACalls.en Tryz.func78 Tryz.ntmps78 ?_
   repeat' (first|refine aa.aD ?_|((first|apply aa.q true|apply aa.sq true);rfl;rfl;rfl;rfl;first|exact True.intro|omega|(simp only[tn,Int.reduceToNat];omega)|(rw[hO,hP];simp only[List.length_cons,List.length_nil];omega))|refine aa.bP ?_|refine aa.ae ?_|refine aa.af ?_|refine aa.au ?_|refine aa.ai ?_|refine aa.aA ?_|refine aa.aF ?_|refine aa.li ?_|(apply aa.lM;(iterate 11 rfl);(first|rfl|(simp only[List.length_append,List.length_map,List.length_set,List.length_replicate,List.length_cons,List.length_nil];omega)|(rw[hO,hP];simp only[List.length_cons,List.length_nil];omega));(first|(simp only[List.length_append,List.length_map,List.length_cons,List.length_nil];omega)|(rw[hO,hP];simp only[List.length_cons,List.length_nil];omega));simp only[List.set_cons_zero,List.set_cons_succ])|(apply aa.pE;(iterate 11 rfl);(first|rfl|(simp only[List.length_append,List.length_map,List.length_set,List.length_replicate,List.length_cons,List.length_nil];omega)|(rw[hO,hP];simp only[List.length_cons,List.length_nil];omega));rfl;(first|decide|exact Nat.le_of_ble_eq_true rfl|(dsimp only;omega)|decide +kernel|(rw[hO,hP];simp only[List.length_cons,List.length_nil];omega));simp only[List.set_cons_zero,List.set_cons_succ])|(apply aa.zh;(first|(apply fu;(iterate 8 rfl);(first|rfl|(simp only[List.length_append,List.length_map,List.length_set,List.length_replicate,List.length_cons,List.length_nil];omega)|(rw[hO,hP];simp only[List.length_cons,List.length_nil];omega));(first|decide|exact Nat.le_of_ble_eq_true rfl|(dsimp only;omega)|decide +kernel|(rw[hO,hP];simp only[List.length_cons,List.length_nil];omega)))|(apply eY;rfl;rfl;rfl;rfl;(first|rfl|(simp only[List.length_append,List.length_map,List.length_set,List.length_replicate,List.length_cons,List.length_nil];omega)|(rw[hO,hP];simp only[List.length_cons,List.length_nil];omega));rfl;rfl));rfl;rfl;rfl)|intro _)
   all_goals first|exact⟨rfl,yt e (by simp) _ (by first|(rw[←e];done)|rw[←e,List.length_set])⟩
  ·have m1:(bO (dx w)++[.int .u8 0])[((w.length:Int) / 8).toNat]?=some (.int .u8 0):=by
    rw[List.getElem?_append_right (by omega),show ((w.length:Int) / 8).toNat - (bO (dx w)).length=0 by omega];rfl
   have ez:(7 - (w.length:Int)%8)=7:=by omega
   have e:(bO (dx w)++[D.int .u8 0]).set ((w.length:Int) / 8).toNat (D.int .u8 ((((0:Int).toNat |||(1*2^(7 - (w.length:Int)%8).toNat%256:Int).toNat:Nat)):Int))=bO (dx (w++[dgB true])):=by
    rw[hs,jP,List.set_append_right _ _ (by omega),show ((w.length:Int) / 8).toNat - (bO (dx w)).length=0 by omega,ez,o49];rfl
   refine ACalls.en Tryz.func78 Tryz.ntmps78 ?_
   repeat' (first|refine aa.aD ?_|((first|apply aa.q true|apply aa.sq true);rfl;rfl;rfl;rfl;first|exact True.intro|omega|(simp only[tn,Int.reduceToNat];omega)|(rw[hO,hP];simp only[List.length_cons,List.length_nil];omega)|(rw[List.length_append,hO,hP];simp only[List.length_cons,List.length_nil];omega)|(rw[ez];decide))|refine aa.bP ?_|refine aa.ae ?_|refine aa.af ?_|refine aa.au ?_|refine aa.ai ?_|refine aa.aA ?_|refine aa.aF ?_|refine aa.li ?_|(apply aa.lM;(iterate 11 rfl);(first|rfl|(simp only[List.length_append,List.length_map,List.length_set,List.length_replicate,List.length_cons,List.length_nil];omega)|(rw[hO,hP];simp only[List.length_cons,List.length_nil];omega)|(rw[List.length_append,hO,hP];simp only[List.length_cons,List.length_nil];omega)|(rw[ez];decide));(first|(simp only[List.length_append,List.length_map,List.length_cons,List.length_nil];omega)|(rw[hO,hP];simp only[List.length_cons,List.length_nil];omega)|(rw[List.length_append,hO,hP];simp only[List.length_cons,List.length_nil];omega)|(rw[ez];decide));simp only[List.set_cons_zero,List.set_cons_succ])|(apply aa.pE;(iterate 11 rfl);(first|rfl|(simp only[List.length_append,List.length_map,List.length_set,List.length_replicate,List.length_cons,List.length_nil];omega)|(rw[hO,hP];simp only[List.length_cons,List.length_nil];omega)|(rw[List.length_append,hO,hP];simp only[List.length_cons,List.length_nil];omega)|(rw[ez];decide));(first|rfl|exact m1);(first|decide|exact Nat.le_of_ble_eq_true rfl|(dsimp only;omega)|decide +kernel|(rw[hO,hP];simp only[List.length_cons,List.length_nil];omega)|(rw[List.length_append,hO,hP];simp only[List.length_cons,List.length_nil];omega)|(rw[ez];decide));simp only[List.set_cons_zero,List.set_cons_succ])|(apply aa.zh;(first|(apply fu;(iterate 8 rfl);(first|rfl|(simp only[List.length_append,List.length_map,List.length_set,List.length_replicate,List.length_cons,List.length_nil];omega)|(rw[hO,hP];simp only[List.length_cons,List.length_nil];omega)|(rw[List.length_append,hO,hP];simp only[List.length_cons,List.length_nil];omega)|(rw[ez];decide));(first|decide|exact Nat.le_of_ble_eq_true rfl|(dsimp only;omega)|decide +kernel|(rw[hO,hP];simp only[List.length_cons,List.length_nil];omega)|(rw[List.length_append,hO,hP];simp only[List.length_cons,List.length_nil];omega)|(rw[ez];decide)))|(apply eY;rfl;rfl;rfl;rfl;(first|rfl|(simp only[List.length_append,List.length_map,List.length_set,List.length_replicate,List.length_cons,List.length_nil];omega)|(rw[hO,hP];simp only[List.length_cons,List.length_nil];omega)|(rw[List.length_append,hO,hP];simp only[List.length_cons,List.length_nil];omega)|(rw[ez];decide));(first|rfl|exact m1);rfl));rfl;rfl;rfl)|intro _)
   all_goals first|exact⟨rfl,yt e (by simp) _ (by first|(rw[←e];done)|rw[←e,List.length_set])⟩
 ·have hs:=zK w (dgB one) h8
  have hlast:=BC w h8
  have hT:=DW w
  have hTd:=DX w hd
  have ei:((w.length:Int) / 8).toNat=w.length / 8:=by omega
  cases one
  ·have e:bO (dx w)=bO (dx (w++[dgB false])):=by
    rw[hs]
    unfold dgB
    rw[if_neg (by decide),JZ _ hTd (by omega),set_self hlast]
   refine ACalls.en Tryz.func78 Tryz.ntmps78 ?_
   repeat' (first|refine aa.aD ?_|refine aa.bh true ?_|refine aa.fP true ?_|refine aa.bP ?_|refine aa.ae ?_|refine aa.af ?_|refine aa.au ?_|refine aa.ai ?_|refine aa.aA ?_|refine aa.aF ?_|refine aa.li ?_|(apply aa.lM;(iterate 11 rfl);(first|rfl|(simp only[List.length_append,List.length_map,List.length_set,List.length_replicate,List.length_cons,List.length_nil];omega));((simp only[List.length_append,List.length_map,List.length_cons,List.length_nil];omega));simp only[List.set_cons_zero,List.set_cons_succ])|refine aa.zg ?_|(apply aa.zh;(first|(apply fu;(iterate 8 rfl);(first|rfl|(simp only[List.length_append,List.length_map,List.length_set,List.length_replicate,List.length_cons,List.length_nil];omega));(first|decide|exact Nat.le_of_ble_eq_true rfl|(dsimp only;omega)|decide +kernel))|(apply eY;rfl;rfl;rfl;rfl;(first|rfl|(simp only[List.length_append,List.length_map,List.length_set,List.length_replicate,List.length_cons,List.length_nil];omega));rfl;rfl));rfl;rfl;rfl)|intro _)
   all_goals first|exact⟨rfl,yt e (by simp) _ (by first|(rw[←e];done)|rw[←e,List.length_set])⟩
  ·have m1:(bO (dx w))[((w.length:Int) / 8).toNat]?=some (.int .u8 ((gU (ji w)).toNat:Int)):=by rw[ei];exact I9 _ _ _ hlast
   have ez:(7 - (w.length:Int)%8).toNat=7 - (ji w).length:=by omega
   have hb1:=JY (ji w) hTd (by omega)
   have hv:(((((gU (ji w)).toNat:Int).toNat |||(1*2^(7 - (w.length:Int)%8).toNat%256:Int).toNat:Nat)):Int)=((gU (ji w++[49])).toNat:Int):=by
    rw[ez,Int.toNat_natCast,←hb1]
    have hpw:(2:Nat)^(7 - (ji w).length)<256:=Nat.lt_of_le_of_lt (Nat.pow_le_pow_right (by decide) (Nat.sub_le 7 _)) (by decide)
    have:(1*2^(7 - (ji w).length)%256:Int).toNat=2^(7 - (ji w).length):=by
     have hc:((2^(7 - (ji w).length):Nat):Int)=(2:Int)^(7 - (ji w).length):=by simp
     rw[←hc]
     generalize (2:Nat)^(7 - (ji w).length)=z at *
     omega
    rw[this]
   have e:(bO (dx w)).set ((w.length:Int) / 8).toNat (D.int .u8 (((((gU (ji w)).toNat:Int).toNat |||(1*2^(7 - (w.length:Int)%8).toNat%256:Int).toNat:Nat)):Int))=bO (dx (w++[dgB true])):=by
    rw[hv,ei,I8,hs];rfl
   have hbd:((gU (ji w)).toNat:Int)≤255:=by have:=(gU (ji w)).toNat_lt;omega
   refine ACalls.en Tryz.func78 Tryz.ntmps78 ?_
   repeat' (first|refine aa.aD ?_|((first|apply aa.q true|apply aa.sq true);rfl;rfl;rfl;rfl;first|exact True.intro|omega|(simp only[tn,Int.reduceToNat];omega)|(rw[hO,hP];omega)|(exact⟨by omega,by omega⟩))|refine aa.bP ?_|refine aa.ae ?_|refine aa.af ?_|refine aa.au ?_|refine aa.ai ?_|refine aa.aA ?_|refine aa.aF ?_|refine aa.li ?_|(apply aa.lM;(iterate 11 rfl);(first|rfl|(simp only[List.length_append,List.length_map,List.length_set,List.length_replicate,List.length_cons,List.length_nil];omega)|(rw[hO,hP];omega)|(exact⟨by omega,by omega⟩));(first|(simp only[List.length_append,List.length_map,List.length_cons,List.length_nil];omega)|(rw[hO,hP];omega)|(exact⟨by omega,by omega⟩));simp only[List.set_cons_zero,List.set_cons_succ])|(apply aa.pE;(iterate 11 rfl);(first|rfl|(simp only[List.length_append,List.length_map,List.length_set,List.length_replicate,List.length_cons,List.length_nil];omega)|(rw[hO,hP];omega)|(exact⟨by omega,by omega⟩));(first|rfl|exact m1);(first|decide|exact Nat.le_of_ble_eq_true rfl|(dsimp only;omega)|decide +kernel|(rw[hO,hP];omega)|(exact⟨by omega,by omega⟩));simp only[List.set_cons_zero,List.set_cons_succ])|(apply aa.zh;(first|(apply fu;(iterate 8 rfl);(first|rfl|(simp only[List.length_append,List.length_map,List.length_set,List.length_replicate,List.length_cons,List.length_nil];omega)|(rw[hO,hP];omega)|(exact⟨by omega,by omega⟩));(first|decide|exact Nat.le_of_ble_eq_true rfl|(dsimp only;omega)|decide +kernel|(rw[hO,hP];omega)|(exact⟨by omega,by omega⟩)))|(apply eY;rfl;rfl;rfl;rfl;(first|rfl|(simp only[List.length_append,List.length_map,List.length_set,List.length_replicate,List.length_cons,List.length_nil];omega)|(rw[hO,hP];omega)|(exact⟨by omega,by omega⟩));(first|rfl|exact m1);rfl));rfl;rfl;rfl)|intro _)
   all_goals first|exact⟨rfl,yt e (by simp) _ (by first|(rw[←e];done)|rw[←e,List.length_set])⟩
end Wr
namespace Wr
open Go Bt
attribute [local irreducible] aa ACalls
variable {gl:List (Nat×List D)}
theorem Hy {α:Type} (l:List α) (i:Nat) (x:α) (h:l[i]?=some x):l.drop i=x::l.drop (i+1):=nW l i x h
theorem Ka (s:List UInt8) (h:s.all bZ=true) {k:Nat} {b:UInt8} (hk:s[k]?=some b):b=48∨b=49:=kg (List.all_eq_true.1 h b (List.mem_of_getElem? hk))
theorem n48:(((48:UInt8).toNat:Nat):Int)=48:=rfl
theorem n49:(((49:UInt8).toNat:Nat):Int)=49:=rfl
theorem Gl (s:List UInt8):ACalls (cxg gl) 77 [S s] [] (fun r H=>r=B (s.all bZ)∧H=[]):=by
 refine ACalls.en Tryz.func77 Tryz.ntmps77 ?_
 repeat (first|refine aa.aD ?_|refine aa.bh true ?_|refine aa.au ?_|refine aa.ai ?_|refine aa.aj ?_|refine aa.aK ?_|refine aa.df ?_|refine aa.dN ?_|refine aa.aB ?_|refine aa.zA ?_)
 refine aa.weak (env':=[(6, .it 0),(2,B false)]) ⟨rfl,rfl,trivial⟩ ?_
 refine aa.loop (fun m env H=>∃k:Nat,m=s.length - k∧k≤s.length∧(s.drop k).all bZ=s.all bZ∧env=[(6, .it 0),(2,B false)]∧H=[.siter ⟨s.toArray⟩ k]) s.length
  ⟨0,rfl,by omega,rfl,rfl,rfl⟩ ?_
 rintro m env H ⟨k,rfl,hk,hall,rfl,rfl⟩
 rcases Nat.lt_or_ge k s.length with hlt|hge
 ·obtain⟨b,hb⟩:∃b,s[k]?=some b:=⟨_,List.getElem?_eq_getElem hlt⟩
  rw[Hy s k b hb,List.all_cons]at hall
  by_cases h1:128≤b.toNat
  ·have e:bZ b=false:=by
    cases he:bZ b with
    |false=>rfl
    |true=>rcases kg he with rfl|rfl<;>simp at h1
   rw[e,Bool.false_and]at hall
   rw[←hall]
   repeat' (first|refine aa.aD ?_|refine aa.bh true ?_|refine aa.au ?_|refine aa.ai ?_|refine aa.aj ?_|refine aa.aK ?_|refine aa.df ?_|refine aa.dN ?_|refine aa.aB ?_|(apply aa.Ni;(iterate 6 rfl);exact hb;exact h1;intro _ _ _ _;simp only[List.set_cons_zero,List.set_cons_succ])|intro _|refine aa.av ?_|refine aa.aP ?_|refine aa.aI ?_)
   all_goals first|exact⟨rfl,rfl⟩|omega
  ·by_cases h8:b=48
   ·subst h8
    have hall':(s.drop (k+1)).all bZ=s.all bZ:=by rw[←hall];rfl
    repeat' (first|refine aa.aD ?_|refine aa.bh true ?_|refine aa.au ?_|refine aa.ai ?_|refine aa.aj ?_|refine aa.aK ?_|refine aa.df ?_|refine aa.dN ?_|refine aa.aB ?_|(apply aa.zP;(iterate 6 rfl);exact hb;exact (by decide);exact n48;simp only[List.set_cons_zero,List.set_cons_succ])|intro _|refine aa.av ?_|refine aa.aP ?_|refine aa.aI ?_)
    exact aa.round [(6, .it 0),(2,B false)] (s.length - (k+1)) (by omega) ⟨rfl,rfl,trivial⟩ ⟨k+1,rfl,hlt,hall',rfl,rfl⟩
   ·by_cases h9:b=49
    ·subst h9
     have hall':(s.drop (k+1)).all bZ=s.all bZ:=by rw[←hall];rfl
     repeat' (first|refine aa.aD ?_|refine aa.bh true ?_|refine aa.au ?_|refine aa.ai ?_|refine aa.aj ?_|refine aa.aK ?_|refine aa.df ?_|refine aa.dN ?_|refine aa.aB ?_|(apply aa.zP;(iterate 6 rfl);exact hb;exact (by decide);exact n49;simp only[List.set_cons_zero,List.set_cons_succ])|intro _|refine aa.av ?_|refine aa.aP ?_|refine aa.aI ?_)
     exact aa.round [(6, .it 0),(2,B false)] (s.length - (k+1)) (by omega) ⟨rfl,rfl,trivial⟩ ⟨k+1,rfl,hlt,hall',rfl,rfl⟩
    ·have e1:(b.toNat:Int)≠48:=fun h=>h8 ((nE (c:=b) (n:=48) (by omega)).1 h)
     have e2:(b.toNat:Int)≠49:=fun h=>h9 ((nE (c:=b) (n:=49) (by omega)).1 h)
     have e3:bZ b=false:=by simp[bZ,h8,h9]
     rw[e3,Bool.false_and]at hall
     rw[←hall]
     have hlt8:b.toNat<128:=by omega
     repeat' (first|refine aa.aD ?_|refine aa.bh true ?_|refine aa.au ?_|refine aa.ai ?_|refine aa.aj ?_|refine aa.aK ?_|refine aa.df ?_|refine aa.dN ?_|refine aa.aB ?_|(apply aa.zP;(iterate 6 rfl);exact hb;exact hlt8;exact rfl;simp only[List.set_cons_zero,List.set_cons_succ])|intro _|refine aa.av ?_|refine aa.aP ?_|refine aa.aI ?_)
     all_goals first|exact⟨rfl,rfl⟩|omega
 ·obtain rfl:k=s.length:=by omega
  rw[List.drop_length]at hall
  rw[←hall]
  have hsz:(⟨s.toArray⟩:ByteArray).size≤s.length:=Nat.le_of_eq (Dy s)
  repeat' (first|refine aa.aD ?_|refine aa.bh true ?_|refine aa.au ?_|refine aa.ai ?_|refine aa.aj ?_|refine aa.aK ?_|refine aa.df ?_|refine aa.dN ?_|refine aa.aB ?_|(apply aa.CR;(iterate 6 rfl);exact hsz)|intro _|refine aa.av ?_|refine aa.aP ?_|refine aa.aI ?_)
  all_goals first|exact⟨rfl,rfl⟩
attribute [local irreducible] bO dx cH dg
theorem A9 (w s:List UInt8) (hd:w.all bZ=true) (hs:s.all bZ=true) (hl:w.length+s.length≤100000000) :
  ACalls (cxg gl) 24 [.ptr 0 0,S s] (WO w) (fun r H=>r=I 0∧H=WO (w++s)):=by
 have hp:=Gl (gl:=gl) s
 rw[hs]at hp
 refine ACalls.en Tryz.func24 Tryz.ntmps24 ?_
 repeat (first|refine aa.aD ?_|refine aa.bh true ?_|refine aa.ah (hp) ?_|refine aa.au ?_|refine aa.ai ?_|refine aa.aj ?_|refine aa.zA ?_)
 refine aa.weak (env':=[(15, .it 2),(0, .ptr 0 0)]) ⟨rfl,rfl,trivial⟩ ?_
 refine aa.loop (fun m env H=>∃k:Nat,m=s.length - k∧k≤s.length∧env=[(15, .it 2),(0, .ptr 0 0)]∧H=[.cells [.ms 1 (bO (dx (w++s.take k))).length,I (w++s.take k).length], .arr 5 1 (bO (dx (w++s.take k))), .siter ⟨s.toArray⟩ k]) s.length
  ⟨0,rfl,by omega,rfl,by simp⟩ ?_
 rintro m env H ⟨k,rfl,hk,rfl,rfl⟩
 have hwd:(w++s.take k).all bZ=true:=by
  rw[List.all_append,hd,Bool.true_and,List.all_eq_true]
  exact fun x hx=>List.all_eq_true.1 hs x (List.mem_of_mem_take hx)
 rcases Nat.lt_or_ge k s.length with hlt|hge
 ·obtain⟨b,hb⟩:∃b,s[k]?=some b:=⟨_,List.getElem?_eq_getElem hlt⟩
  have ht:w++s.take (k+1)=w++s.take k++[b]:=by rw[List.take_add_one,hb,List.append_assoc];rfl
  have hwl:(w++s.take k).length≤1000000000:=by rw[List.length_append,List.length_take];omega
  rcases Ka s hs hb with rfl|rfl
  ·have hbit:=Dz (gl:=gl) (w++s.take k) false hwd hwl
   rw[show dgB false=48 from rfl,←ht]at hbit
   repeat' (first|refine aa.aD ?_|refine aa.bh true ?_|refine aa.az [0,1] ( hbit) ?_|refine aa.au ?_|refine aa.ai ?_|refine aa.aj ?_|(apply aa.zP;(iterate 6 rfl);exact hb;exact (by decide);exact n48;simp only[List.set_cons_zero,List.set_cons_succ])|intro _|refine aa.av ?_|refine aa.aI ?_)
   all_goals first|exact aa.round [(15, .it 2),(0, .ptr 0 0)] (s.length - (k+1)) (by omega) ⟨rfl,rfl,trivial⟩ ⟨k+1,rfl,hlt,rfl,rfl⟩
  ·have hbit:=Dz (gl:=gl) (w++s.take k) true hwd hwl
   rw[show dgB true=49 from rfl,←ht]at hbit
   repeat' (first|refine aa.aD ?_|refine aa.bh true ?_|refine aa.az [0,1] ( hbit) ?_|refine aa.au ?_|refine aa.ai ?_|refine aa.aj ?_|(apply aa.zP;(iterate 6 rfl);exact hb;exact (by decide);exact n49;simp only[List.set_cons_zero,List.set_cons_succ])|intro _|refine aa.av ?_|refine aa.aI ?_)
   all_goals first|exact aa.round [(15, .it 2),(0, .ptr 0 0)] (s.length - (k+1)) (by omega) ⟨rfl,rfl,trivial⟩ ⟨k+1,rfl,hlt,rfl,rfl⟩
 ·obtain rfl:k=s.length:=by omega
  rw[List.take_length]
  have hsz:(⟨s.toArray⟩:ByteArray).size≤s.length:=Nat.le_of_eq (Dy s)
  repeat' (first|refine aa.aD ?_|refine aa.bh true ?_|refine aa.au ?_|refine aa.ai ?_|refine aa.aj ?_|(apply aa.CR;(iterate 6 rfl);exact hsz)|intro _|refine aa.av ?_|refine aa.aI ?_)
  all_goals first|exact⟨rfl,rfl⟩
end Wr
end Go.Proofs.YtbpednchkndocaaGreatDoor.Av
