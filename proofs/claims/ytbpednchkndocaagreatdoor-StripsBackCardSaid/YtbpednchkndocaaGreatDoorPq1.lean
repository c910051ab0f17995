/- Readers: any number of bits. Events are read: what stands at a place of the table; the place of a code. Events are read: the place of a code. Events are read: the program's codes and the document's rows are the same. Events are read: tcoef.Take. -/
import Derived.Test.YtbpednchkndocaaGreatDoorPt2
import Derived.Test.YtbpednchkndocaaGreatDoorPn3
set_option linter.unusedVariables false
set_option linter.unusedSimpArgs false
set_option maxRecDepth 100000
set_option maxHeartbeats 64000000
namespace Go.Proofs.YtbpednchkndocaaGreatDoor.Av
namespace Bt
open Go
attribute [local irreducible] aa ACalls
variable {gl:List (Nat×List D)}
def nB(l:List Int):Int:=l.foldl (fun a b=>2*a+b) 0
theorem kz(l:List Int)(b:Int):nB (l++[b])=2*nB l+b:=by simp[nB]
theorem mR:∀(n:Nat) (l:List Int),l.length=n→(∀b∈l,b=0∨b=1)→0≤nB l∧nB l<2^n
 |0,l,hl,_=>by
  have:=List.eq_nil_of_length_eq_zero hl;subst this;simp[nB]
 |n+1,l,hl,h=>by
  have hne:l≠[]:=fun e=>by rw[e]at hl;simp at hl
  have e:=(List.dropLast_concat_getLast hne).symm;have hb:=h (l.getLast hne) (List.getLast_mem hne);have ih:=mR n l.dropLast (by rw[List.length_dropLast];omega) fun b hb=>h b (List.dropLast_subset _ hb)
  rw[e,kz];have hp:(2:Int)^(n+1)=2*2^n:=by rw[Int.pow_succ];omega
  rw[hp];omega
theorem zC(s:List UInt8)(p i:Nat)(h:p+i<8*s.length):(aG s p).take (i+1)=(aG s p).take i++[fq s ((p+i:Nat):Int)]:=by
 have:(aG s p)[i]?=some (fq s ((p+i:Nat):Int)):=by
  unfold aG;rw[List.getElem?_map,List.getElem?_range (by omega)];rfl
 rw[List.take_add_one,this];rfl
theorem take_len(s:List UInt8)(p i:Nat)(h:p+i≤8*s.length):((aG s p).take i).length=i:=by rw[List.length_take,dN];omega
theorem jf(s:List UInt8)(p i:Nat):∀b∈(aG s p).take i,b=0∨b=1:=fun b hb=>fJ s p b (List.mem_of_mem_take hb)
def pkN(s:List UInt8)(p n:Nat):Int×Int:=if 8*s.length<p+n then (0,2) else (nB ((aG s p).take n),0)
def tkN(s:List UInt8)(p n:Nat):Nat:=if 8*s.length<p+n then p else p+n
theorem FE(v b:Int)(hv:0≤v)(hb:b=0∨b=1):(((v*2^1).toNat |||b.toNat:Nat):Int)=2*v+b:=by
 obtain⟨n,rfl⟩:=Int.eq_ofNat_of_zero_le hv;have e:((n:Int)*2^1).toNat=n*2:=by omega
 rw[e];have h2:∀m:Nat,n*2 |||m%2=n*2+m%2:=fun m=>by
  have:=Nat.two_pow_add_eq_or_of_lt (i:=1) (b:=m%2) (by omega) n;rw[Nat.mul_comm,←this]
 rcases hb with rfl|rfl
 ·have:=h2 0;simp at this ⊢;omega
 ·have:=h2 1;simp at this ⊢;omega
theorem Oy(s:List UInt8)(q:Int):(((bt s (q/8).toNat/2^(7-q%8).toNat).toNat%2:Nat):Int)=fq s q∧(fq s q=0∨fq s q=1):=by
 have b1:=Df s (q/8).toNat (7-q%8).toNat;unfold fq;generalize bt s (q/8).toNat/2^(7-q%8).toNat=A at *;omega
theorem Fz(s:List UInt8)(p n:Nat)(hs:s.length<1000000000000000)(h1:p≤8*s.length)(hn:n≤32):ACalls (cxg gl) 198 [.ptr 0 0,I n] [Rd s p] (fun r H=>r=Ia (pkN s p n)∧H=[Rd s p]):=by
 unfold pkN;by_cases hp:8*s.length<p+n
 ·rw[if_pos hp];refine ACalls.en Tryz.func198 Tryz.ntmps198 ?_;repeat' (first|refine aa.aF ?_|refine aa.bh true ?_|refine aa.eP true ?_|refine aa.aV ?_|refine aa.ah ?_|refine aa.ae ?_|refine aa.ak ?_|intro _|refine aa.aA ?_|refine aa.aJ ?_)
  all_goals exact Tn
 ·rw[if_neg hp];have z0:nB ((aG s p).take 0)=0:=rfl;refine ACalls.en Tryz.func198 Tryz.ntmps198 ?_;repeat (first|refine aa.aF ?_|refine aa.bh true ?_|refine aa.eP true ?_|refine aa.aV ?_|refine aa.ah ?_|refine aa.ae ?_|refine aa.ak ?_)
  refine aa.weak (env':=[(31,I ((0:Nat):Int)),(30,I (n:Int)),(6,I (nB ((aG s p).take 0))),(0, .ptr 0 0)]) ⟨rfl,rfl,by rw[z0];rfl,rfl,trivial⟩ ?_;refine aa.loop (fun m env H=>∃i:Nat,m=n-i∧i≤n∧env=[(31,I (i:Int)),(30,I (n:Int)),(6,I (nB ((aG s p).take i))),(0, .ptr 0 0)]∧H=[Rd s p]) n
   ⟨0,rfl,by omega,rfl,rfl⟩ ?_
  rintro m env H ⟨i,rfl,hi,rfl,rfl⟩;rcases Nat.lt_or_ge i n with hlt|hge
  ·obtain⟨v0,v1⟩:=mR i _ (take_len s p i (by omega)) (jf s p i);have hp32:(2:Int)^i≤2147483648:=by
    have h:=Nat.pow_le_pow_right (n:=2) (by decide) (show i≤31 by omega);have e:((2^i:Nat):Int)=(2:Int)^i:=by simp
    rw[←e];omega
   have et:=zC s p i (by omega);have en:nB ((aG s p).take (i+1))=2*nB ((aG s p).take i)+fq s ((p:Int)+(i:Int)):=by rw[et,kz];rfl
   obtain⟨q1,q2⟩:=Oy s ((p:Int)+(i:Int));have eo:=FE (nB ((aG s p).take i)) (fq s ((p:Int)+(i:Int))) v0 q2;have b1:=Df s (((p:Int)+(i:Int))/8).toNat (7-((p:Int)+(i:Int))%8).toNat;have b2:(((bt s (((p:Int)+(i:Int))/8).toNat/2^(7-((p:Int)+(i:Int))%8).toNat).toNat &&& (1:Int).toNat:Nat):Int)=fq s ((p:Int)+(i:Int)):=by
    rw[show (1:Int).toNat=1 from rfl,Nat.and_one_is_mod];exact q1
   generalize nB ((aG s p).take i)=V at *;repeat' (first|refine aa.aF ?_|((first|apply aa.q true|apply aa.qq true);rfl;rfl;rfl;rfl;first|exact True.intro|omega|(simp only[tn,Int.reduceToNat];omega)|(exact⟨Df _ _ _,by decide⟩)|(simp only[Int.reduceToNat,Nat.and_one_is_mod,Int.toNat_natCast];omega))|refine aa.aV ?_|refine aa.ah ?_|refine aa.ae ?_|refine aa.ak ?_|intro _|refine aa.aA ?_|refine aa.aJ ?_)
   all_goals first
    |exact aa.round [(31,I ((i+1:Nat):Int)),(30,I (n:Int)),(6,I (nB ((aG s p).take (i+1)))),(0, .ptr 0 0)] (n-(i+1)) (by omega) ⟨rfl,rfl,congrArg I (by first|(rw[en,←eo,←b2];done)|(rw[en,←eo,←b2];rfl)),rfl,trivial⟩ ⟨i+1,rfl,hlt,rfl,rfl⟩
    |omega
  ·obtain rfl:i=n:=by omega
   repeat' (first|refine aa.aF ?_|refine aa.bh true ?_|refine aa.eP true ?_|refine aa.aV ?_|refine aa.ah ?_|refine aa.ae ?_|refine aa.ak ?_|intro _|refine aa.aA ?_|refine aa.aJ ?_)
   all_goals exact Tn
theorem jg(s:List UInt8)(p n:Nat)(hs:s.length<1000000000000000)(h1:p≤8*s.length)(hn:n≤32):ACalls (cxg gl) 186 [.ptr 0 0,I n] [Rd s p] (fun r H=>r=Ia (pkN s p n)∧H=[Rd s (tkN s p n)]):=by
 have pk:=Fz (gl:=gl) s p n hs h1 hn;unfold tkN;unfold pkN at *;by_cases hp:8*s.length<p+n
 ·rw[if_pos hp]at pk;rw[if_pos hp,if_pos hp];refine ACalls.en Tryz.func186 Tryz.ntmps186 ?_;repeat' (first|refine aa.aF ?_|refine aa.bh true ?_|refine aa.aj [0] (pk) ?_|refine aa.ah ?_|refine aa.ae ?_|refine aa.aD ?_|intro _|refine aa.aA ?_)
  all_goals exact Tn
 ·rw[if_neg hp]at pk;rw[if_neg hp,if_neg hp];generalize nB ((aG s p).take n)=V at *;refine ACalls.en Tryz.func186 Tryz.ntmps186 ?_;repeat' (first|refine aa.aF ?_|refine aa.bh true ?_|refine aa.aj [0] (pk) ?_|refine aa.ah ?_|refine aa.ae ?_|refine aa.aD ?_|intro _|refine aa.aA ?_)
  all_goals exact Tn
end Bt
namespace Tc
open Go Bt
attribute [local irreducible] aa ACalls
variable {gl:List (Nat×List D)}
theorem qC(la:Bool)(n:Nat):∀k,iR la n≤iR la (n+k)
 |0=>Int.le_refl _
 |k+1=>by
  have:=qC la n k;have h2:=iZ la ((n+k:Nat):Int);have e:=nJ la (n+k);rw[show n+(k+1)=n+k+1 by omega];omega
theorem Me:iR false 27=iR false 63:=by decide +kernel
theorem J7:∀r:_root_.Fin 27,dx false r.val≠0:=by decide +kernel
theorem Nq:dx false 27=0:=by decide +kernel
theorem P7:∀r:_root_.Fin 41,dx true r.val≠0:=by decide +kernel
theorem Np(la:Bool)(ru:Int)(h0:0≤ru)(h:dx la ru≠0):ru≤40∧(la=false→ru≤26):=by
 unfold dx at h;cases la
 ·simp only[Bool.false_eq_true,if_false]at h;repeat' split at h
  all_goals first|(exfalso;exact h rfl)|(refine⟨by omega,fun _=>by omega⟩)
 ·simp only[if_true]at h;repeat' split at h
  all_goals first|(exfalso;exact h rfl)|(refine⟨by omega,fun h=>by cases h⟩)
attribute [local irreducible] dx iR
abbrev Te(la:Bool)(ru am:Int):D := .agg [.bool la, .int .i64 ru, .int .i64 am]
theorem NK(la:Bool)(ru:Nat)(am:Int)(hr:ru≤63)(ha:1≤am∧am≤dx la ru):ACalls (cxg gl) 321 [I (dD la ru am)] [] (fun r H=>r = .d (Te la ru am)∧H=[]):=by
 have hb:=iZ la ru;obtain⟨l40,l26⟩:=Np la ru (by omega) (by omega);have hp:dD la ru am=uh la+iR la ru+am-1:=by unfold dD;rw[if_neg (by omega),Int.toNat_natCast]
 have s0:∀la,iR la 0=0:=fun la=>IK la
 have hsb:=mM la ru;have hend:=Me;have h63:=mM false 63;have hbase:uh la=if la=true then iR false 63 else 0:=rfl
 have hbb:0≤uh la∧uh la≤756:=by rw[hbase];split<;>omega
 rw[hp];refine ACalls.en Tryz.func321 Tryz.ntmps321 ?_;repeat (first|refine aa.aF ?_|refine aa.bh true ?_|refine aa.bC ?_|refine aa.ah ?_|refine aa.ae ?_|refine aa.aH ?_|refine aa.aD ?_|refine aa.bG ?_)
 refine aa.weak (env':=[(4,I ((0:Nat):Int)),(3,B false),(2, .ptr 0 0),(0,I (uh la+iR la ru+am-1))]) ⟨rfl,rfl,rfl,rfl,trivial⟩ ?_;refine aa.loop (fun m env H=>∃(q:Bool) (r:Nat) (at':Int),m=(if q=true then 0 else 100)+(50-r)∧((q=false∧r≤27∧(la=true∨r≤ru)∧at'=uh la+iR la ru+am-1-iR false r)∨(q=true∧la=true∧r≤ru∧at'=iR la ru+am-1-iR true r))∧env=[(4,I (r:Int)),(3,B q),(2, .ptr 0 0),(0,I at')]∧∃cs,H=[.cells cs]∧cs.length=3) 150
  ⟨false,0,_,by simp, .inl ⟨rfl,by omega, .inr (by omega),by rw[s0];omega⟩,rfl,_,rfl,rfl⟩ ?_
 rintro m env H ⟨q,r,at',rfl,hc,rfl,cs,rfl,hcs⟩
 match cs,hcs with
 |[c0,c1,c2],_ =>
 have hm:=xk (gl:=gl) q r;have hq:=iZ q r;have hsr:=mM q r;have e1:=nJ q r;rcases hc with⟨rfl,h27,hle,hat⟩|⟨rfl,rfl,hle,hat⟩
 ·by_cases hr27:r=27
  ·subst hr27;have h0:=Nq;rw[show ((27:Nat):Int)=27 by rfl]at hm;rw[h0]at hm;have hla:la=true:=by
    rcases hle with h|h
    ·exact h
    ·cases la with
     |true=>rfl
     |false=>have:=l26 rfl;omega
   subst hla;repeat' (first|refine aa.aF ?_|refine aa.bh true ?_|refine aa.av (hm) ?_|refine aa.bC ?_|refine aa.ah ?_|refine aa.ae ?_|refine aa.aH ?_|refine aa.aD ?_|refine aa.bG ?_|intro _|refine aa.aP ?_)
   all_goals first
    |exact aa.round [(4,I ((0:Nat):Int)),(3,B true),(2, .ptr 0 0),(0,I at')] (0+50) (by simp) ⟨rfl,rfl,rfl,rfl,trivial⟩ ⟨true,0,at',by simp, .inr ⟨rfl,rfl,by omega,by rw[hat,hbase,s0,hend,if_pos rfl];omega⟩,rfl,_,rfl,rfl⟩
    |omega
  ·have hne:=J7 ⟨r,by omega⟩;simp only at hne;by_cases hlast:la=false∧r=ru
   ·obtain⟨rfl,rfl⟩:=hlast;have hv:at'=am-1:=by rw[hat,hbase,if_neg (by decide)];omega
    subst hv;repeat' (first|refine aa.aF ?_|refine aa.bh true ?_|refine aa.av (hm) ?_|refine aa.bC ?_|refine aa.ah ?_|refine aa.ae ?_|refine aa.aH ?_|refine aa.aD ?_|refine aa.bG ?_|intro _|refine aa.aP ?_)
    all_goals first|exact⟨by rw[show am-1+1=am by omega];rfl,rfl⟩|omega
   ·have hge:dx false r≤at':=by
     have hmono:iR false (r+1)≤uh la+iR la ru:=by
      cases la with
      |true =>
       have:=qC false (r+1) (27-(r+1));rw[show r+1+(27-(r+1))=27 by omega]at this;rw[hbase,if_pos rfl];omega
      | false =>
       have hru:r+1≤ru:=by
        rcases hle with h|h
        ·cases h
        ·rcases Nat.lt_or_ge r ru with h2|h2
         ·omega
         ·exact absurd ⟨rfl,by omega⟩ hlast
       have:=qC false (r+1) (ru-(r+1));rw[show r+1+(ru-(r+1))=ru by omega]at this;rw[hbase,if_neg (by decide)];omega
     omega
    have hle2:la=true∨r+1≤ru:=by
     rcases hle with h|h
     ·exact .inl h
     ·cases la with
      |true=>exact .inl rfl
      |false =>
       rcases Nat.lt_or_ge r ru with h2|h2
       ·exact .inr (by omega)
       ·exact absurd ⟨rfl,by omega⟩ hlast
    repeat' (first|refine aa.aF ?_|refine aa.bh true ?_|refine aa.av (hm) ?_|refine aa.bC ?_|refine aa.ah ?_|refine aa.ae ?_|refine aa.aH ?_|refine aa.aD ?_|refine aa.bG ?_|intro _|refine aa.aP ?_)
    all_goals first
     |exact aa.round [(4,I ((r+1:Nat):Int)),(3,B false),(2, .ptr 0 0),(0,I (at'-dx false r))] (100+(50-(r+1))) (by simp;omega) ⟨rfl,rfl,rfl,rfl,trivial⟩ ⟨false,r+1,at'-dx false r,by simp, .inl ⟨rfl,by omega,hle2,by rw[e1];omega⟩,rfl,_,rfl,rfl⟩
     |omega
 ·have hne:=P7 ⟨r,by omega⟩;simp only at hne;by_cases hlast:r=ru
  ·subst hlast;have hv:at'=am-1:=by omega
   subst hv;repeat' (first|refine aa.aF ?_|refine aa.bh true ?_|refine aa.av (hm) ?_|refine aa.bC ?_|refine aa.ah ?_|refine aa.ae ?_|refine aa.aH ?_|refine aa.aD ?_|refine aa.bG ?_|intro _|refine aa.aP ?_)
   all_goals first|exact⟨by rw[show am-1+1=am by omega];rfl,rfl⟩|omega
  ·have hge:dx true r≤at':=by
    have:=qC true (r+1) (ru-(r+1));rw[show r+1+(ru-(r+1))=ru by omega]at this;omega
   repeat' (first|refine aa.aF ?_|refine aa.bh true ?_|refine aa.av (hm) ?_|refine aa.bC ?_|refine aa.ah ?_|refine aa.ae ?_|refine aa.aH ?_|refine aa.aD ?_|refine aa.bG ?_|intro _|refine aa.aP ?_)
   all_goals first
    |exact aa.round [(4,I ((r+1:Nat):Int)),(3,B true),(2, .ptr 0 0),(0,I (at'-dx true r))] (0+(50-(r+1))) (by simp;omega) ⟨rfl,rfl,rfl,rfl,trivial⟩ ⟨true,r+1,at'-dx true r,by simp, .inr ⟨rfl,rfl,by omega,by rw[e1];omega⟩,rfl,_,rfl,rfl⟩
    |omega
end Tc
namespace Tc
open Go Bt
attribute [local irreducible] aa ACalls
variable {gl:List (Nat×List D)}
def tlE(v n:Int):Bool:=decide (n<7∧3/2^(7-n).toNat=v)
def fnE(v n:Int):List Nat→Bool→Int×Bool
 |[],may=>(-1,may||tlE v n)
 |i::r,may=>if ln2 i=n∧cd2 i=v then ((i:Int),true) else fnE v n r (may||decide (n<ln2 i∧cd2 i/2^(ln2 i-n).toNat=v))
def vw(v n:Int):Int×Bool:=fnE v n (List.range 102) false
theorem Pz(i:Nat)(h:i<102):List.range' i (102-i)=i::List.range' (i+1) (102-(i+1)):=by
 rw[show 102-i=(102-(i+1))+1 by omega,List.range'_succ]
theorem RD(j:Nat):(0:Int)<2^j:=Int.pow_pos (by decide)
attribute [local irreducible] cd2 ln2
theorem Ql(v n:Int)(hv:0≤v∧v≤100000)(hn:0≤n∧n≤12):ACalls (cxg gtc) 320 [I v,I n] [] (fun r H=>r = .cH [I (vw v n).1,B (vw v n).2]∧H=[]):=by
 have hl1:=F6;have hl2:=F3;refine ACalls.en Tryz.func320 Tryz.ntmps320 ?_;repeat (first|refine aa.aF ?_|refine aa.bh true ?_|refine aa.ah ?_|refine aa.ae ?_|refine aa.ak ?_|refine aa.au ?_|refine aa.cf ?_|refine aa.bg ?_|refine aa.aC ?_)
 refine aa.weak (env':=[(8,I ((0:Nat):Int)),(5,B false),(1,I n),(0,I v)]) ⟨rfl,rfl,rfl,rfl,trivial⟩ ?_;refine aa.loop (fun m env H=>∃(i:Nat) (mb:Bool),m=102-i∧i≤102∧fnE v n (List.range' i (102-i)) mb=vw v n∧env=[(8,I (i:Int)),(5,B mb),(1,I n),(0,I v)]∧H=[]) 102
  ⟨0,false,rfl,by omega,rfl,rfl,rfl⟩ ?_
 rintro m env H ⟨i,mb,rfl,hi,hf,rfl,rfl⟩;rcases Nat.lt_or_ge i 102 with hlt|hge
 ·rw[Pz i hlt,fnE]at hf;obtain⟨⟨b1,b2⟩,b3,b4⟩:=Gs (i:Int) (by omega);have g1:=F7 (i:Int) (by omega);have g2:=F4 (i:Int) (by omega);have hq:∀j:Nat,0≤cd2 i/2^j:=fun j=>Int.ediv_nonneg b3 (Int.le_of_lt (RD j))
  by_cases c0:ln2 i=n∧cd2 i=v
  ·obtain⟨c1,c2⟩:=c0;rw[if_pos ⟨c1,c2⟩]at hf;repeat' (first|refine aa.aF ?_|refine aa.q'c true ?_|refine aa.ah ?_|refine aa.ae ?_|refine aa.ak ?_|refine aa.au ?_|refine aa.cf ?_|refine aa.bg ?_|refine aa.aC ?_|(apply aa.jD;(iterate 7 rfl);exact g1)|(apply aa.jD;(iterate 7 rfl);exact g2)|intro _|refine aa.aA ?_|refine aa.aP ?_|refine aa.aJ ?_)
   all_goals first|exact⟨by rw[←hf],rfl⟩|omega
  ·rw[if_neg c0]at hf;have hmb:∀b,decide (n<ln2 i∧cd2 i/2^(ln2 i-n).toNat=v)=b→fnE v n (List.range' (i+1) (102-(i+1))) (mb||b)=vw v n:=fun b hb=>by rw[←hb];exact hf
   by_cases d1:n<ln2 i
   ·by_cases d2:cd2 i/2^(ln2 i-n).toNat=v
    ·have hf2:=hmb true (decide_eq_true ⟨d1,d2⟩);rw[Bool.or_true]at hf2;repeat' (first|refine aa.aF ?_|refine aa.q'c true ?_|refine aa.ah ?_|refine aa.ae ?_|refine aa.ak ?_|refine aa.au ?_|refine aa.cf ?_|refine aa.bg ?_|refine aa.aC ?_|(apply aa.jD;(iterate 7 rfl);exact g1)|(apply aa.jD;(iterate 7 rfl);exact g2)|intro _|refine aa.aA ?_|refine aa.aP ?_|refine aa.aJ ?_)
     all_goals first
      |exact aa.round [(8,I ((i+1:Nat):Int)),(5,B true),(1,I n),(0,I v)] (102-(i+1)) (by omega) ⟨rfl,rfl,rfl,rfl,trivial⟩ ⟨i+1,true,rfl,hlt,hf2,rfl,rfl⟩
      |omega
    ·have hf2:=hmb false (decide_eq_false fun h=>d2 h.2);rw[Bool.or_false]at hf2;repeat' (first|refine aa.aF ?_|refine aa.q'c true ?_|refine aa.ah ?_|refine aa.ae ?_|refine aa.ak ?_|refine aa.au ?_|refine aa.cf ?_|refine aa.bg ?_|refine aa.aC ?_|(apply aa.jD;(iterate 7 rfl);exact g1)|(apply aa.jD;(iterate 7 rfl);exact g2)|intro _|refine aa.aA ?_|refine aa.aP ?_|refine aa.aJ ?_)
     all_goals first
      |exact aa.round [(8,I ((i+1:Nat):Int)),(5,B mb),(1,I n),(0,I v)] (102-(i+1)) (by omega) ⟨rfl,rfl,rfl,rfl,trivial⟩ ⟨i+1,mb,rfl,hlt,hf2,rfl,rfl⟩
      |omega
   ·have hf2:=hmb false (decide_eq_false fun h=>d1 h.1);rw[Bool.or_false]at hf2;by_cases c1:ln2 i=n
    ·have c2:¬cd2 i=v:=fun h=>c0 ⟨c1,h⟩
     repeat' (first|refine aa.aF ?_|refine aa.q'c true ?_|refine aa.ah ?_|refine aa.ae ?_|refine aa.ak ?_|refine aa.au ?_|refine aa.cf ?_|refine aa.bg ?_|refine aa.aC ?_|(apply aa.jD;(iterate 7 rfl);exact g1)|(apply aa.jD;(iterate 7 rfl);exact g2)|intro _|refine aa.aA ?_|refine aa.aP ?_|refine aa.aJ ?_)
     all_goals first
      |exact aa.round [(8,I ((i+1:Nat):Int)),(5,B mb),(1,I n),(0,I v)] (102-(i+1)) (by omega) ⟨rfl,rfl,rfl,rfl,trivial⟩ ⟨i+1,mb,rfl,hlt,hf2,rfl,rfl⟩
      |omega
    ·repeat' (first|refine aa.aF ?_|refine aa.q'c true ?_|refine aa.ah ?_|refine aa.ae ?_|refine aa.ak ?_|refine aa.au ?_|refine aa.cf ?_|refine aa.bg ?_|refine aa.aC ?_|(apply aa.jD;(iterate 7 rfl);exact g1)|(apply aa.jD;(iterate 7 rfl);exact g2)|intro _|refine aa.aA ?_|refine aa.aP ?_|refine aa.aJ ?_)
     all_goals first
      |exact aa.round [(8,I ((i+1:Nat):Int)),(5,B mb),(1,I n),(0,I v)] (102-(i+1)) (by omega) ⟨rfl,rfl,rfl,rfl,trivial⟩ ⟨i+1,mb,rfl,hlt,hf2,rfl,rfl⟩
      |omega
 ·obtain rfl:i=102:=by omega
  have hfe:vw v n=(-1,mb||tlE v n):=by rw[←hf];rfl
  rw[hfe];have h3:∀j:Nat,0≤(3:Int)/2^j:=fun j=>Int.ediv_nonneg (by decide) (Int.le_of_lt (RD j))
  cases mb
  ·rw[Bool.false_or];unfold tlE;by_cases d1:n<7
   ·by_cases d2:3/2^(7-n).toNat=v
    ·rw[decide_eq_true ⟨d1,d2⟩];repeat' (first|refine aa.aF ?_|(apply aa.q true;rfl;rfl;rfl;rfl;first|exact True.intro|omega|(simp only[tn,Int.reduceToNat];omega)|(simp only[IntKind.bits];omega))|refine aa.ah ?_|refine aa.ae ?_|refine aa.ak ?_|refine aa.au ?_|refine aa.cf ?_|refine aa.bg ?_|refine aa.aC ?_|intro _|refine aa.aA ?_|refine aa.aP ?_|refine aa.aJ ?_)
     all_goals first|exact⟨rfl,rfl⟩|exact⟨by rw[decide_eq_true d2];rfl,rfl⟩|omega
    ·rw[decide_eq_false fun h=>d2 h.2];repeat' (first|refine aa.aF ?_|(apply aa.q true;rfl;rfl;rfl;rfl;first|exact True.intro|omega|(simp only[tn,Int.reduceToNat];omega)|(simp only[IntKind.bits];omega))|refine aa.ah ?_|refine aa.ae ?_|refine aa.ak ?_|refine aa.au ?_|refine aa.cf ?_|refine aa.bg ?_|refine aa.aC ?_|intro _|refine aa.aA ?_|refine aa.aP ?_|refine aa.aJ ?_)
     all_goals first|exact⟨rfl,rfl⟩|exact⟨by rw[decide_eq_false d2];rfl,rfl⟩|omega
   ·rw[decide_eq_false fun h=>d1 h.1];repeat' (first|refine aa.aF ?_|(apply aa.q true;rfl;rfl;rfl;rfl;first|exact True.intro|omega|(simp only[tn,Int.reduceToNat];omega)|(simp only[IntKind.bits];omega))|refine aa.ah ?_|refine aa.ae ?_|refine aa.ak ?_|refine aa.au ?_|refine aa.cf ?_|refine aa.bg ?_|refine aa.aC ?_|intro _|refine aa.aA ?_|refine aa.aP ?_|refine aa.aJ ?_)
    all_goals exact Tn
  ·rw[Bool.true_or];repeat' (first|refine aa.aF ?_|(apply aa.q true;rfl;rfl;rfl;rfl;first|exact True.intro|omega|(simp only[tn,Int.reduceToNat];omega)|(simp only[IntKind.bits];omega))|refine aa.ah ?_|refine aa.ae ?_|refine aa.ak ?_|refine aa.au ?_|refine aa.cf ?_|refine aa.bg ?_|refine aa.aC ?_|intro _|refine aa.aA ?_|refine aa.aP ?_|refine aa.aJ ?_)
   all_goals exact Tn
end Tc
namespace Tc
open Go Bt
def KM:List (List UInt8×Bool×Nat×Nat) :=
 ([48,48,48,48,48,49,49],false,0,0)::(List.range 64).flatMap fun (ru:Nat)=>[false,true].flatMap fun la=>(rB la (ru:Int)).zipIdx.map fun x=>(x.1,la,ru,x.2+1)
def dX:List (List UInt8):=KM.map (·.1)
def lK(i:Nat):Bool×Nat×Nat:=(KM.getD i ([],false,0,0)).2
inductive EM where
 |done (at':Int) (c:Nat)|fail|next (v:Int)
def Gf(v:Int)(n:Nat)(b:Int):EM :=
 if n=7∧2*v+b=3 then .done (-1) 7 else
 match vw (2*v+b) n with
 |(a,may)=>if 0≤a then .done a n else if may=false then .fail else .next (2*v+b)
def nA:List Int→Int→Nat→Int×Int×Nat
 |[],_,n=>(0,2,n-1)
 |b::r,v,n=>match Gf v n b with
  | .done a c=>(a,0,c)
  | .fail=>(0,3,n)
  | .next v'=>nA r v' (n+1)
def okE(a:Int)(i:Nat):Bool:=if i=0 then decide (a = -1) else
 decide (0≤a)&&decide (dD (lK i).1 (lK i).2.1 (lK i).2.2=a)&&decide (1≤(lK i).2.2)&&decide (((lK i).2.2:Int)≤dx (lK i).1 (lK i).2.1)&&decide ((lK i).2.1≤63)
def mI:Nat→Int→Nat→List UInt8→Bool
 |0,_,_,_=>false
 |f+1,v,n,w=>decide (n≤12)&&decide (0≤v)&&decide (v≤5000)&&[(0:Int),1].all fun b=>match Gf v n b,jo dX w (cn b)with
  | .done a c, .done i c'=>okE a i&&decide (c=c')
  | .fail, .fail=>true
  | .next v', .next w'=>mI f v' (n+1) w'
  |_,_=>false
theorem jR:mI 13 0 1 []=true:=by decide +kernel
theorem kV:∀(f:Nat) (v:Int) (n:Nat) (w:List UInt8),mI f v n w=true→∀B:List Int,(∀b∈B,b=0∨b=1) →
  (nA B v n).2.1=(dB dX (B.map cn) w).2.1∧((dB dX (B.map cn) w).2.1=0→(nA B v n).2.2=(dB dX (B.map cn) w).2.2∧∃i:Nat,(dB dX (B.map cn) w).1=i∧okE (nA B v n).1 i=true)
 |0,_,_,_,h,_,_=>by simp[mI]at h
 |f+1,v,n,w,h,[],_=>⟨rfl,fun h=>by simp[dB]at h⟩
 | f + 1, v, n, w, h, b :: B, hB => by
  have hb:b∈[(0:Int),1]:=by
   rcases hB b (by simp)with h|h<;>simp[h]
  rw[mI,Bool.and_eq_true]at h;have hs:=List.all_eq_true.1 h.2 b hb;rw[nA,List.map_cons,dB];cases hm:Gf v n b with
  | done d c =>
   cases hr:jo dX w (cn b)with
   |done i c' =>
    rw[hm,hr]at hs;simp only[Bool.and_eq_true,decide_eq_true_eq]at hs;obtain⟨h1,rfl⟩:=hs;exact⟨rfl,fun _=>⟨rfl,i,rfl,h1⟩⟩
   |fail=>rw[hm,hr]at hs;cases hs
   |next w'=>rw[hm,hr]at hs;cases hs
  |fail =>
   cases hr:jo dX w (cn b)with
   |done i c'=>rw[hm,hr]at hs;cases hs
   |fail=>exact⟨rfl,fun h=>by simp at h⟩
   |next w'=>rw[hm,hr]at hs;cases hs
  | next s' =>
   cases hr:jo dX w (cn b)with
   |done i c'=>rw[hm,hr]at hs;cases hs
   |fail=>rw[hm,hr]at hs;cases hs
   |next w' =>
    rw[hm,hr]at hs;exact kV f s' (n+1) w' hs B (fun x hx=>hB x (by simp[hx]))
theorem Ex:dX.length=103:=by decide +kernel
end Tc
namespace Tc
open Go Bt
attribute [local irreducible] aa ACalls
variable {gl:List (Nat×List D)}
def ev0:Ev:=⟨false,0,0⟩
def fu(v:Int):Ev:=⟨decide (v/2^14=1),(((v/2^8).toNat &&& (63:Int).toNat:Nat):Int),if 128≤v%256 then v%256-256 else v%256⟩
def kR(e:Ev):Bool:=!evR e||decide (0≤dD e.last e.run (max e.level (-e.level)))
def og(v:Int)(n:Nat):Ev×Int×Nat:=if n<15 then (ev0,2,0) else if kR (fu v)=true then (ev0,7,0) else (fu v,0,22)
def vI(v:Int)(n:Nat):Nat:=if n<15 then 0 else 15
theorem O1(n:Nat):(((n &&& (63:Int).toNat:Nat):Int))=(n:Int)%64:=by
 have e:n &&& (63:Int).toNat=n%2^6:=Nat.and_two_pow_sub_one_eq_mod _ 6;rw[e];omega
theorem Nk(n:Int)(h:n≠0 ∧ -127≤n∧n≤127):1≤max n (-n)∧max n (-n)≤127:=by omega
attribute [local irreducible] dD
theorem HL(s:List UInt8)(p:Nat)(hs:s.length≤1000000)(hp:p≤8*s.length):ACalls (cxg gl) 319 [.ptr 0 0] [Rd s p]
  (fun r H=>r = .cH [.d (evD (og (nB ((aG s p).take 15)) (8*s.length-p)).1),I (og (nB ((aG s p).take 15)) (8*s.length-p)).2.1]∧H=[Rd s ((p+vI (nB ((aG s p).take 15)) (8*s.length-p):Nat):Int)]):=by
 have tk:=jg (gl:=gl) s p 15 (by omega) hp (by omega);unfold pkN tkN at tk;by_cases h:8*s.length<p+15
 ·rw[if_pos h,if_pos h]at tk;have e1:∀v,og v (8*s.length-p)=(ev0,2,0):=fun v=>by unfold og;rw[if_pos (by omega)]
  have e2:∀v,vI v (8*s.length-p)=0:=fun v=>by unfold vI;rw[if_pos (by omega)]
  rw[e1,e2];refine ACalls.en Tryz.func319 Tryz.ntmps319 ?_;repeat' (first|refine aa.aF ?_|refine aa.bh true ?_|refine aa.aj [0] (tk) ?_|refine aa.ah ?_|refine aa.ae ?_|refine aa.aB ?_|refine aa.ak ?_|refine aa.aH ?_|refine aa.aD ?_|refine aa.bG ?_|refine aa.au ?_|refine aa.aC ?_|intro _|refine aa.aA ?_)
  all_goals exact Tn
 ·rw[if_neg h,if_neg h]at tk;have e1:∀v,og v (8*s.length-p)=if kR (fu v)=true then (ev0,7,0) else (fu v,0,22):=fun v=>by unfold og;rw[if_neg (by omega)]
  have e2:∀v,vI v (8*s.length-p)=15:=fun v=>by unfold vI;rw[if_neg (by omega)]
  rw[e1,e2];have hl:((aG s p).take 15).length=15:=take_len s p 15 (by omega);obtain⟨v0,v1⟩:=mR 15 _ hl (jf s p 15);rw[show (2:Int)^15=32768 by decide]at v1;generalize nB ((aG s p).take 15)=v at *;have hrun:=O1 (v/2^8).toNat;have rc:=qH (gl:=gl) (fu v);have hrb:0≤(fu v).run∧(fu v).run≤63:=by unfold fu;simp only;rw[hrun];omega
  have hlv:(fu v).level=if 128≤v%256 then v%256-256 else v%256:=rfl
  have hrr:(fu v).run=(((v/2^8).toNat &&& (63:Int).toNat:Nat):Int):=rfl;have hll:(fu v).last=decide (v/2^14=1):=rfl;have pl:=fun h1 h2=>Fy (gl:=gl) (fu v).last (fu v).run (max (fu v).level (-(fu v).level)) h1 h2
  cases hR:evR (fu v)with
  | false =>
   rw[hR]at rc;have eb:kR (fu v)=true:=by unfold kR;rw[hR];rfl
   rw[eb,if_pos rfl];unfold evD at rc;rw[hlv,hrr,hll]at rc;by_cases hq:128≤v%256;all_goals
    first|rw[if_pos hq]at rc|rw[if_neg hq]at rc
    refine ACalls.en Tryz.func319 Tryz.ntmps319 ?_;repeat' (first|refine aa.aF ?_|refine aa.bh true ?_|refine aa.aj [0] (tk) ?_|refine aa.av (rc) ?_|refine aa.ah ?_|refine aa.ae ?_|refine aa.aB ?_|refine aa.ak ?_|refine aa.aH ?_|refine aa.aD ?_|refine aa.bG ?_|refine aa.au ?_|refine aa.aC ?_|intro _|refine aa.aA ?_)
    all_goals exact Tn
  | true =>
   have hb:(0≤(fu v).run∧(fu v).run≤63)∧(fu v).level≠0 ∧ -127≤(fu v).level∧(fu v).level≤127:=of_decide_eq_true hR;have pc:=pl hrb (Nk _ hb.2);rw[hR]at rc;have eb:kR (fu v)=decide (0≤dD (fu v).last (fu v).run (max (fu v).level (-(fu v).level))):=by unfold kR;rw[hR];rfl
   generalize hP:dD (fu v).last (fu v).run (max (fu v).level (-(fu v).level))=P at *;unfold evD at rc;rw[hlv,hrr,hll]at rc pc;rw[hlv]at hb;by_cases hbad:0≤P
   ·rw[eb,decide_eq_true hbad,if_pos rfl];by_cases hq:128≤v%256;all_goals
     first|rw[if_pos hq]at rc pc hb|rw[if_neg hq]at rc pc hb
     refine ACalls.en Tryz.func319 Tryz.ntmps319 ?_;repeat' (first|refine aa.aF ?_|refine aa.bh true ?_|refine aa.aj [0] (tk) ?_|refine aa.av (rc) ?_|refine aa.av (pc) ?_|refine aa.ah ?_|refine aa.ae ?_|refine aa.aB ?_|refine aa.ak ?_|refine aa.aH ?_|refine aa.aD ?_|refine aa.bG ?_|refine aa.au ?_|refine aa.aC ?_|intro _|refine aa.aA ?_)
     all_goals exact Tn
   ·rw[eb,decide_eq_false hbad,if_neg (by decide)];unfold evD;simp only[hlv,hrr,hll];by_cases hq:128≤v%256;all_goals
     first|rw[if_pos hq]at rc pc hb ⊢|rw[if_neg hq]at rc pc hb ⊢
     refine ACalls.en Tryz.func319 Tryz.ntmps319 ?_;repeat' (first|refine aa.aF ?_|refine aa.bh true ?_|refine aa.aj [0] (tk) ?_|refine aa.av (rc) ?_|refine aa.av (pc) ?_|refine aa.ah ?_|refine aa.ae ?_|refine aa.aB ?_|refine aa.ak ?_|refine aa.aH ?_|refine aa.aD ?_|refine aa.bG ?_|refine aa.au ?_|refine aa.aC ?_|intro _|refine aa.aA ?_)
     all_goals exact Tn
end Tc
end Go.Proofs.YtbpednchkndocaaGreatDoor.Av
