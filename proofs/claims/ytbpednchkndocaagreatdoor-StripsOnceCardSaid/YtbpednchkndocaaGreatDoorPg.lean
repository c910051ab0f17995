/- prefix.Make: a table of codes, or none. Tables: Take, Len, Longest. The plain law of tables: what Take tells is what the document tells. The laws of tables: the example. -/
import Derived.Test.YtbpednchkndocaaGreatDoorPf
set_option linter.unusedVariables false
set_option linter.unusedSimpArgs false
set_option maxRecDepth 100000
set_option maxHeartbeats 64000000
namespace Go.Proofs.YtbpednchkndocaaGreatDoor.Av
namespace Px
open Go Bt
attribute [local irreducible] aa ACalls
variable {gl:List (Nat×List D)}
def mk:List (List UInt8×Int)→Tb→Option Tb
 |[],t=>some t
 |p::r,t=>if yw t p.1 p.2=true then mk r (ij t p.1 p.2) else none
def tb0:Tb:=⟨[],[],[],[],0⟩
theorem I1:cO []=[]:=rfl
theorem Kh:fP []=[]:=rfl
theorem xI(cs:List (List UInt8×Int))(i:Nat)(p:List UInt8×Int)(h:cs[i]?=some p):(bK cs).getD i .top=mF p:=by simp[bK,List.getD,h]
theorem EC(ti:TI)(ha:ti.agg=true)(hs:ti.size=2)(cs:List (List UInt8×Int))(i:Nat)(p:List UInt8×Int)(h:cs[i]?=some p):kC ti ((bK cs).getD i .top).cells 0=some (mF p):=by
 rw[xI cs i p h];unfold kC mF;rw[ha,hs];rfl
structure LP(t:Tb)(i:Nat):Prop where
 len:t.codes.length=i
 beg:∀w,0≤jF w t.beg∧jF w t.beg≤24*i
 lng:0≤t.lng∧t.lng≤24
theorem Pd:LP tb0 0:=⟨rfl,fun w=>by simp[tb0,Ku],by decide⟩
theorem Ji(row:List UInt8)(h:kL row=true):row.length≤24:=by
 unfold kL at h;simp only[Bool.and_eq_true,decide_eq_true_eq]at h;exact h.1.2
theorem LP.add{t:Tb}{i:Nat}(h:LP t i){row:List UInt8}{sy:Int}(hb:yw t row sy=true):LP (ij t row sy) (i+1):=by
 obtain⟨_,h2,_⟩:=(xZ t row sy).1 hb;have hr:=Ji row h2;refine⟨by simp[ij,h.len],fun w=>?_,?_⟩
 ·have:=mH row t.beg (24*i) h.beg row.length w;simp only[ij];omega
 ·have:=h.lng;simp only[ij];omega
theorem vR(p:List UInt8×Int)(r:List (List UInt8×Int))(t:Tb):mk (p::r) t=if yw t p.1 p.2=true then mk r (ij t p.1 p.2) else none:=rfl
theorem Ej(t:Tb):mk [] t=some t:=rfl
def rV(m:Nat):Env→Bool
 |[]=>true
 |(_,v)::r=>v.bnd m&&rV m r
theorem ja(m:Nat):∀(env:Env),rV m env=true→∀i,(env.get i).bnd m=true
 |[],_,i=>rfl
 |(j,v)::r,h,i=>by
  simp only[rV,Bool.and_eq_true]at h;simp only[Env.get];cases Nat.beq j i with
  |true=>exact h.1
  |false=>exact ja m r h.2 i
theorem HV{α:Type}(l:List α)(i:Nat)(x:α)(h:l[i]?=some x):l.drop i=x::l.drop (i+1):=by
 have hl:=aI h;rw[List.drop_eq_getElem_cons hl];congr 1;simpa[hl]using h
def zt(p:List UInt8×Int):List AV:=[S p.1,I p.2]
attribute [local irreducible] cO fP bK yw ij mk
def GI(t:Tb)(c f:List AV):List aN:=[.map (cO t.sym), .map (fP t.rws), .map (cO t.beg), .cells [.own 2 (bK t.codes) 6, .mp 0, .mp 1, .mp 2,I t.lng], .cells c, .cells f, .front 321 2 (bK t.codes).length]
def O9:List aN:=[.map (cO []), .map (fP []), .map (cO []), .cells [.d .aU, .mp 0, .mp 1, .mp 2,I 0]]
theorem FR(cs:List (List UInt8×Int))(p0:List UInt8×Int)(T:Tb)(h0:cs[0]?=some p0)(h2:cs.length≤256)(hr:∀p∈cs,p.1.length≤1000000)(hT:mk cs tb0=some T):
  ACalls (cxg gl) 306 [.d (.sl 2 (bK cs))] [] (fun r H=>r = .cH [.ptr 3 0,I 0]∧H=GI T (zt p0) (zt p0)):=by
 have hln:=fC cs;have h1:=aI h0;refine ACalls.en Tryz.func306 Tryz.ntmps306 ?_;repeat (first|refine aa.aF ?_|refine aa.bh true ?_|refine aa.ah ?_|refine aa.ae ?_|refine aa.ak ?_|refine aa.aH ?_|refine aa.aM ?_|refine aa.aD ?_|refine aa.bG ?_|refine aa.au ?_|refine aa.bg ?_|refine aa.uD ?_)
 rw[hln];refine aa.weak (env':=[(22,I 0),(21,I cs.length),(20, .d (.sl 2 (bK cs))),(4, .ptr 3 0)]) ⟨rfl,rfl,rfl,rfl,trivial⟩ ?_;refine aa.loop (fun m env H=>∃(i:Nat) (t:Tb),m=cs.length-i∧i≤cs.length∧LP t i∧mk (cs.drop i) t=mk cs tb0∧env=[(22,I (i:Int)),(21,I cs.length),(20, .d (.sl 2 (bK cs))),(4, .ptr 3 0)]∧((i=0∧t=tb0∧H=O9)∨(0<i∧H=GI t (zt p0) (zt p0)))) cs.length
  ⟨0,tb0,rfl,by omega,Pd,rfl,rfl, .inl ⟨rfl,rfl,by unfold O9;rw[I1,Kh]⟩⟩ ?_
 rintro m env H ⟨i,t,rfl,hi,hok,hmk,rfl,hcase⟩;rcases Nat.lt_or_ge i cs.length with hlt|hge
 ·obtain⟨p,hp⟩:∃p,cs[i]?=some p:=⟨_,List.getElem?_eq_getElem hlt⟩;have hrl:=hr p (List.mem_of_getElem? hp);have g1:=fun (ti:TI) (ha:ti.agg=true) (hs:ti.size=2)=>EC ti ha hs cs i p hp
  rw[HV cs i p hp,vR]at hmk;cases hb:yw t p.1 p.2 with
  |false =>
   rw[hb]at hmk;rw[if_neg (by decide),hT]at hmk;cases hmk
  | true =>
   rw[if_pos hb]at hmk;have hok':=hok.add hb;have hN:∀w,0≤jF w t.beg∧jF w t.beg≤1000000:=fun w=>by have:=hok.beg w;omega
   have hL:=hok.lng;have hC:=hok.len;rcases hcase with⟨hi0,rfl,rfl⟩|⟨hi0,rfl⟩
   ·subst hi0;have e0:p=p0:=by rw[h0]at hp;exact (Option.some.inj hp).symm
    subst e0;have ha:=H9 (gl:=gl) tb0 p.1 p.2 hrl hb hN (by omega) rfl;unfold O9;unfold Pb Mc at ha;repeat' (first|refine aa.aF ?_|refine aa.q'b true ?_|refine aa.aj [3,0,1,2] (ha) ?_|refine aa.ah ?_|refine aa.ae ?_|refine aa.ak ?_|refine aa.aH ?_|refine aa.aM ?_|refine aa.aD ?_|refine aa.bG ?_|refine aa.au ?_|refine aa.bg ?_|(apply aa.oM;(iterate 6 rfl);exact (g1 _ rfl rfl))|refine aa.uD ?_|intro _)
    exact aa.round [(22,I ((0+1:Nat):Int)),(21,I cs.length),(20, .d (.sl 2 (bK cs))),(4, .ptr 3 0)] (cs.length-1) (by omega) ⟨rfl,rfl,rfl,rfl,trivial⟩ ⟨1,_,rfl,hlt,hok',hmk,rfl, .inr ⟨by omega,rfl⟩⟩
   ·have ha:=H8 (gl:=gl) t p.1 p.2 hrl hb hN (by omega) (by omega);unfold GI;unfold Md at ha;repeat' (first|refine aa.aF ?_|refine aa.q'b true ?_|refine aa.aj [3,0,1,2,6] (ha) ?_|refine aa.ah ?_|refine aa.ae ?_|refine aa.ak ?_|refine aa.aH ?_|refine aa.aM ?_|refine aa.aD ?_|refine aa.bG ?_|refine aa.au ?_|refine aa.bg ?_|(apply aa.oM;(iterate 6 rfl);exact (g1 _ rfl rfl))|refine aa.uD ?_|intro _)
    refine aa.drop 7 (env':=[(22,I ((i+1:Nat):Int)),(21,I cs.length),(20, .d (.sl 2 (bK cs))),(4, .ptr 3 0)]) (Nat.zero_le _) (by simp) (fun o ho=>gb (m:=7) rfl o ho) ⟨rfl,rfl,rfl,rfl,trivial⟩ (ja 7 _ rfl) ?_;exact aa.round [(22,I ((i+1:Nat):Int)),(21,I cs.length),(20, .d (.sl 2 (bK cs))),(4, .ptr 3 0)] (cs.length-(i+1)) (by omega) ⟨rfl,rfl,rfl,rfl,trivial⟩ ⟨i+1,_,rfl,hlt,hok',hmk,rfl, .inr ⟨by omega,rfl⟩⟩
 ·obtain rfl:i=cs.length:=by omega
  rw[List.drop_length,Ej]at hmk;rw[hT]at hmk;obtain rfl:=Option.some.inj hmk;rcases hcase with⟨hi0,_,_⟩|⟨hi0,rfl⟩
  ·omega
  ·repeat (first|refine aa.aF ?_|refine aa.bh true ?_|refine aa.ah ?_|refine aa.ae ?_|refine aa.ak ?_|refine aa.aH ?_|refine aa.aM ?_|refine aa.aD ?_|refine aa.bG ?_|refine aa.au ?_|refine aa.bg ?_)
   refine aa.out rfl ⟨_,rfl,?_⟩;unfold GI;repeat (first|refine aa.aF ?_|refine aa.bh true ?_|refine aa.ah ?_|refine aa.ae ?_|refine aa.ak ?_|refine aa.aH ?_|refine aa.aM ?_|refine aa.aD ?_|refine aa.bG ?_|refine aa.au ?_|refine aa.bg ?_)
   (apply aa.BN 7;rfl;rfl;rfl;rfl;rfl)
   exact⟨rfl,rfl⟩
end Px
namespace Px
open Go Bt
attribute [local irreducible] aa ACalls
variable {gl:List (Nat×List D)}
theorem kK(s:List UInt8)(p:Nat)(hs:s.length<1000000000000000)(h:p<8*s.length):ACalls (cxg gl) 186 [.ptr 0 0,I 1] [Rd s p] (fun r H=>r = .cH [I (fq s p),I 0]∧H=[Rd s ((p+1:Nat):Int)]):=by
 have:=qB (gl:=gl) s p (by omega) hs (by omega)
 rwa [show pk1 s p=(fq s p,0) by unfold pk1;rw[if_neg (by omega)],show Bt.tk1 s p=((p+1:Nat):Int) by unfold Bt.tk1;rw[if_neg (by omega)];omega]at this
theorem nH(s:List UInt8)(p:Nat)(hs:s.length<1000000000000000)(h:p=8*s.length):ACalls (cxg gl) 186 [.ptr 0 0,I 1] [Rd s p] (fun r H=>r = .cH [I 0,I 2]∧H=[Rd s p]):=by
 have:=qB (gl:=gl) s p (by omega) hs (by omega)
 rwa [show pk1 s p=(0,2) by unfold pk1;rw[if_pos (by omega)],show Bt.tk1 s p=p by unfold Bt.tk1;rw[if_pos (by omega)]]at this
def mL(t:Tb)(i:Int):Int:=(t.codes.getD i.toNat ([],0)).2
def oZ(t:Tb):List UInt8→List UInt8→Int×Int×Nat
 |[],_=>(0,2,0)
 |x::r,w=>match dH (w++[x]) t.sym 0 with
  |some (_,i)=>(mL t i,0,w.length+1)
  |none=>if jF (w++[x]) t.beg=0 then (0,3,0) else oZ t r (w++[x])
def Ae(p:Nat)(x:Int×Int×Nat):Nat:=if x.2.1=0 then p+x.2.2 else p
theorem HX(b:Int)(h:b=0∨b=1):(([48,49]:List UInt8).take (b+1).toNat).drop b.toNat=[cn b]:=by rcases h with rfl|rfl<;>rfl
theorem K3(t:Tb)(i:Int)(h:0≤i∧i<(t.codes.length:Int)):(bK t.codes).getD i.toNat .top=mF ((t.codes.getD i.toNat ([],0)).1,mL t i):=by
 have hl:i.toNat<t.codes.length:=by omega
 rw[xI t.codes i.toNat t.codes[i.toNat] (by simp[hl])];unfold mL;simp[List.getD,hl]
attribute [local irreducible] cO fP bK fq aG mL cn
theorem EX(t:Tb)(s:List UInt8)(p:Nat)(hs:s.length≤1000000)(hp:p≤8*s.length)(hsym:∀w j i,dH w t.sym 0=some (j,i)→0≤i∧i<(t.codes.length:Int)):
  ACalls (cxg gl) 305 [.ptr 3 0, .ptr 4 0] [.map (cO t.sym), .map (fP t.rws), .map (cO t.beg), .cells [.own 2 (bK t.codes) 5, .mp 0, .mp 1, .mp 2,I t.lng],Rd s p, .front 321 2 (bK t.codes).length]
   (fun r H => r = .cH [I (oZ t ((aG s p).map cn) []).1, I (oZ t ((aG s p).map cn) []).2.1] ∧
    H=[.map (cO t.sym), .map (fP t.rws), .map (cO t.beg), .cells [.own 2 (bK t.codes) 5, .mp 0, .mp 1, .mp 2,I t.lng],Rd s (Ae p (oZ t ((aG s p).map cn) [])), .front 321 2 (bK t.codes).length]):=by
 have hcl:=fC t.codes;refine ACalls.en Tryz.func305 Tryz.ntmps305 ?_;repeat (first|refine aa.aF ?_|refine aa.bh true ?_|refine aa.aj [4] (ui s p) ?_|refine aa.ah ?_|refine aa.ae ?_|refine aa.aB ?_|refine aa.ak ?_|refine aa.au ?_)
 refine aa.weak (env':=[(8,S []),(7,I p),(6,I 0),(1, .ptr 4 0),(0, .ptr 3 0)]) ⟨rfl,rfl,rfl,rfl,rfl,trivial⟩ ?_
 refine aa.loop (fun m env H=>∃(k:Nat) (w:List UInt8),m=8*s.length-(p+k)∧p+k≤8*s.length∧w.length=k∧oZ t ((aG s (p+k)).map cn) w=oZ t ((aG s p).map cn) [] ∧
  env=[(8,S w),(7,I p),(6,I 0),(1, .ptr 4 0),(0, .ptr 3 0)]∧H=[.map (cO t.sym), .map (fP t.rws), .map (cO t.beg), .cells [.own 2 (bK t.codes) 5, .mp 0, .mp 1, .mp 2,I t.lng],Rd s ((p+k:Nat):Int), .front 321 2 (bK t.codes).length]) (8*s.length-p)
  ⟨0,[],by simp,by omega,rfl,rfl,rfl,rfl⟩ ?_
 rintro m env H ⟨k,w,rfl,hk,hw,hm,rfl,rfl⟩;have sk:=fun q:Nat=>gI (gl:=gl) s q p (by omega) ⟨by omega,by omega⟩
 rcases Nat.lt_or_ge (p+k) (8*s.length)with hlt|hge
 ·rw[jd s _ hlt,List.map_cons,oZ]at hm;have t1:=kK (gl:=gl) s (p+k) (by omega) hlt;have hb:=oV s ((p+k:Nat):Int);have he:=HX (fq s ((p+k:Nat):Int)) (by omega);generalize fq s ((p+k:Nat):Int)=b at *;have f3:=eC (w++(([48,49]:List UInt8).take (b+1).toNat).drop b.toNat) t.sym 0;have f4:=eC (w++(([48,49]:List UInt8).take (b+1).toNat).drop b.toNat) t.beg 0;rw[he]at f3 f4;have hln:(w++(([48,49]:List UInt8).take (b+1).toNat).drop b.toNat).length=k+1:=by rw[he,List.length_append,hw];rfl
  cases h5:dH (w++[cn b]) t.sym 0 with
  |some jv =>
   obtain⟨j,i⟩:=jv;rw[h5]at f3 hm;have hi:=hsym _ _ _ h5;have hcg:=K3 t i hi;rw[←he]at f3;simp only at hm;rw[←hm];repeat' (first|refine aa.aF ?_|(apply aa.q true;rfl;rfl;rfl;rfl;first|exact True.intro|omega|(simp only[tn,Int.reduceToNat];omega)|(simp only[List.length_drop,List.length_take,List.length_cons,List.length_nil,hw];omega)|(rw[hcl];omega))|refine aa.aj [4] (t1) ?_|refine aa.ah ?_|refine aa.ae ?_|refine aa.aB ?_|refine aa.ak ?_|refine aa.au ?_|(apply aa.lookup;(iterate 13 rfl);kernel_rfl;exact f3;rfl)|(rw[hcg])|intro _|refine aa.aP ?_)
   all_goals first|exact⟨rfl,by rw[hw];rfl⟩
  | none =>
   rw[h5]at f3 hm;rw[←he]at f3;simp only at hm;cases h6:dH (w++[cn b]) t.beg 0 with
   |none =>
    rw[h6]at f4;rw[←he]at f4;rw[nW h6,if_pos rfl]at hm;rw[←hm];repeat' (first|refine aa.aF ?_|(apply aa.q true;rfl;rfl;rfl;rfl;first|exact True.intro|omega|(simp only[tn,Int.reduceToNat];omega)|(simp only[List.length_drop,List.length_take,List.length_cons,List.length_nil,hw];omega))|refine aa.aj [4] (t1) ?_|refine aa.aj [4] (sk (p+k+1)) ?_|refine aa.ah ?_|refine aa.ae ?_|refine aa.aB ?_|refine aa.ak ?_|refine aa.au ?_|(apply aa.lookup;(iterate 13 rfl);kernel_rfl;exact f3;rfl)|(apply aa.lookup;(iterate 13 rfl);kernel_rfl;exact f4;rfl)|intro _|refine aa.aP ?_)
    all_goals exact Tp
   | some jv =>
    obtain⟨j,n⟩:=jv;rw[h6]at f4;rw[←he]at f4;rw[gZ h6]at hm;by_cases hn:n=0
    ·subst hn;rw[if_pos rfl]at hm;rw[←hm];repeat' (first|refine aa.aF ?_|(apply aa.q true;rfl;rfl;rfl;rfl;first|exact True.intro|omega|(simp only[tn,Int.reduceToNat];omega)|(simp only[List.length_drop,List.length_take,List.length_cons,List.length_nil,hw];omega))|refine aa.aj [4] (t1) ?_|refine aa.aj [4] (sk (p+k+1)) ?_|refine aa.ah ?_|refine aa.ae ?_|refine aa.aB ?_|refine aa.ak ?_|refine aa.au ?_|(apply aa.lookup;(iterate 13 rfl);kernel_rfl;exact f3;rfl)|(apply aa.lookup;(iterate 13 rfl);kernel_rfl;exact f4;rfl)|intro _|refine aa.aP ?_)
     all_goals exact Tp
    ·rw[if_neg hn]at hm;repeat' (first|refine aa.aF ?_|(apply aa.q true;rfl;rfl;rfl;rfl;first|exact True.intro|omega|(simp only[tn,Int.reduceToNat];omega)|(simp only[List.length_drop,List.length_take,List.length_cons,List.length_nil,hw];omega))|refine aa.aj [4] (t1) ?_|refine aa.ah ?_|refine aa.ae ?_|refine aa.aB ?_|refine aa.ak ?_|refine aa.au ?_|(apply aa.lookup;(iterate 13 rfl);kernel_rfl;exact f3;rfl)|(apply aa.lookup;(iterate 13 rfl);kernel_rfl;exact f4;rfl)|intro _|refine aa.aP ?_)
     exact aa.round [(8,S (w++[cn b])),(7,I p),(6,I 0),(1, .ptr 4 0),(0, .ptr 3 0)] (8*s.length-(p+(k+1))) (by omega) ⟨congrArg S (by rw[←he]),rfl,rfl,rfl,rfl,trivial⟩ ⟨k+1,w++[cn b],rfl,by omega,by rw[List.length_append,hw];rfl,hm,rfl,rfl⟩
 ·have hpk:p+k=8*s.length:=by omega
  rw[lX s _ hge,List.map_nil,oZ]at hm;rw[←hm];have t1:=nH (gl:=gl) s (p+k) (by omega) hpk;repeat' (first|refine aa.aF ?_|refine aa.bh true ?_|refine aa.aj [4] (t1) ?_|refine aa.aj [4] (sk (p+k)) ?_|refine aa.ah ?_|refine aa.ae ?_|refine aa.aB ?_|refine aa.ak ?_|refine aa.au ?_|intro _|refine aa.aP ?_)
  all_goals exact Tp
end Px
namespace Px
open Go Bt
theorem uN(row w:List UInt8)(hw:w≠[])(l:List (List UInt8×Int)):∀k,k≤row.length→jF w (dm row k l)=jF w l+(if w.length≤k∧w.isPrefixOf row=true then 1 else 0)
 |0,_=>by
  have:¬w.length≤0:=fun h=>hw (List.eq_nil_of_length_eq_zero (by omega))
  rw[if_neg (fun h=>this h.1)];simp[dm]
 | k + 1, hk => by
  have hk':k≤row.length:=by omega
  rw[dm,xw];have hne:row.take (k+1)≠[]:=fun h=>by
   have:=congrArg List.length h;rw[List.length_take,List.length_nil]at this;omega
  have hlen:(row.take (k+1)).length=k+1:=by rw[List.length_take];omega
  by_cases e:w=row.take (k+1)
  ·rw[if_pos e];have h1:=uN row (row.take (k+1)) hne l k hk';rw[if_neg (by rw[hlen];omega)]at h1;rw[h1,e,hlen,if_pos ⟨Nat.le_refl _,List.isPrefixOf_iff_prefix.2 (List.take_prefix _ _)⟩];omega
  ·rw[if_neg e,uN row w hw l k hk'];congr 1;by_cases hp:w.isPrefixOf row=true
   ·have hpe:=List.prefix_iff_eq_take.1 (List.isPrefixOf_iff_prefix.1 hp);have hne':w.length≠k+1:=fun h=>e (by rw[←h];exact hpe)
    by_cases hl:w.length≤k
    ·rw[if_pos ⟨hl,hp⟩,if_pos ⟨by omega,hp⟩]
    ·rw[if_neg (fun h=>hl h.1),if_neg (fun h=>by have:=h.1;omega)]
   ·rw[if_neg (fun h=>hp h.2),if_neg (fun h=>hp h.2)]
def Am{α:Type}(l:List α):List (α×Int):=List.zipWith (fun (i:Nat) (x:α)=>(x,(i:Int))) (List.range l.length) l
theorem uB{α:Type}(l:List α)(x:α):Am (l++[x])=Am l++[(x,(l.length:Int))]:=by
 unfold Am;rw[List.length_append,List.length_singleton,List.range_succ,List.zipWith_append (by simp)];rfl
theorem tN{α:Type}[DecidableEq α](w:α):∀(l r:List (α×Int)) (i:Nat),dH w (l++r) i=match dH w l i with|some x=>some x|none=>dH w r (i+l.length)
 |[],r,i=>by simp[dH]
 | (k, v) :: l, r, i => by
  simp only[List.cons_append,dH];by_cases h:w=k
  ·simp[h]
  ·rw[if_neg h,if_neg h,tN w l r (i+1),List.length_cons];rw[show i+1+l.length=i+(l.length+1) by omega]
theorem vz(w:List UInt8):∀(l r:List (List UInt8)) (i:Nat),lG w (l++r) i=match lG w l i with|some x=>some x|none=>lG w r (i+l.length)
 |[],r,i=>by simp[lG]
 | x :: l, r, i => by
  simp only[List.cons_append,lG];by_cases h:x=w
  ·simp[h]
  ·rw[if_neg h,if_neg h,vz w l r (i+1),List.length_cons];rw[show i+1+l.length=i+(l.length+1) by omega]
theorem xy(w:List UInt8)(l:List (List UInt8)):dH w (Am l) 0=(lG w l 0).map fun (i:Nat)=>(i,(i:Int)):=by
 refine nK (P:=fun l=>dH w (Am l) 0=(lG w l 0).map fun (i:Nat)=>(i,(i:Int))) rfl (fun l x ih=>?_) l;rw[uB,tN,vz,ih];have hl:(Am l).length=l.length:=by simp[Am]
 cases lG w l 0 with
 |some i=>rfl
 |none =>
  simp only[Option.map_none,dH,lG,Nat.zero_add,hl];by_cases h:w=x
  ·rw[if_pos h,if_pos h.symm];rfl
  ·rw[if_neg h,if_neg (fun e=>h e.symm)];rfl
structure vJ(t:Tb)(cs:List (List UInt8×Int)):Prop where
 codes:t.codes=cs
 sym:t.sym=Am (cs.map (·.1))
 rws:t.rws=Am (cs.map (·.2))
 beg:∀w,w≠[]→jF w t.beg=((cs.filter fun p=>w.isPrefixOf p.1).length:Int)
theorem Pe:vJ tb0 []:=⟨rfl,rfl,rfl,fun w _=>rfl⟩
theorem vJ.add{t:Tb}{cs:List (List UInt8×Int)}(h:vJ t cs)(row:List UInt8)(sy:Int):vJ (ij t row sy) (cs++[(row,sy)]):=by
 have hl:t.codes.length=cs.length:=by rw[h.codes]
 refine⟨by simp[ij,h.codes],?_,?_,fun w hw=>?_⟩
 ·simp only[ij,List.map_append,List.map_singleton];rw[uB,h.sym,hl,List.length_map]
 ·simp only[ij,List.map_append,List.map_singleton];rw[uB,h.rws,hl,List.length_map]
 ·simp only[ij];rw[uN row w hw t.beg row.length (Nat.le_refl _),h.beg w hw,List.filter_append,List.length_append];by_cases hp:w.isPrefixOf row=true
  ·rw[if_pos ⟨(List.isPrefixOf_iff_prefix.1 hp).length_le,hp⟩];simp[hp]
  ·rw[if_neg (fun h=>hp h.2)];simp[hp]
theorem OP:∀(rest:List (List UInt8×Int)) (t T:Tb) (cs:List (List UInt8×Int)),vJ t cs→mk rest t=some T→vJ T (cs++rest)
 |[],t,T,cs,h,hm=>by rw[Ej]at hm;cases hm;simpa using h
 | p :: r, t, T, cs, h, hm => by
  rw[vR]at hm;split at hm
  ·have:=OP r _ T _ (h.add p.1 p.2) hm;simpa using this
  ·cases hm
theorem JK{cs:List (List UInt8×Int)}{T:Tb}(h:mk cs tb0=some T):vJ T cs:=by simpa using OP cs tb0 T [] Pe h
theorem AX(w:List UInt8):∀(l:List (List UInt8)) (i j:Nat),lG w l i=some j→i≤j∧j<i+l.length
 |[],i,j,h=>by simp[lG]at h
 |r::l,i,j,h=>by
  simp only[lG]at h;split at h
  ·simp only[Option.some.injEq]at h;subst h;simp
  ·have:=AX w l _ _ h;simp only[List.length_cons];omega
theorem vJ.OD{t:Tb}{cs:List (List UInt8×Int)}(h:vJ t cs):∀w j i,dH w t.sym 0=some (j,i)→0≤i∧i<(t.codes.length:Int):=by
 intro w j i hf;rw[h.sym,xy]at hf;cases hx:lG w (cs.map (·.1)) 0 with
 |none=>simp[hx]at hf
 |some k =>
  simp[hx]at hf;obtain⟨rfl,rfl⟩:=hf;have:=AX _ _ _ _ hx;rw[h.codes];simp at this;omega
theorem rF{t:Tb}{cs:List (List UInt8×Int)}(h:vJ t cs):∀(D w:List UInt8),oZ t D w=(if (dB (cs.map (·.1)) D w).2.1=0 then mL t (dB (cs.map (·.1)) D w).1 else 0,(dB (cs.map (·.1)) D w).2)
 |[],w=>rfl
 | x :: D, w => by
  rw[oZ,dB,jo,h.sym,xy];have hne:w++[x]≠[]:=by simp
  have hb:=h.beg (w++[x]) hne;cases hf:lG (w++[x]) (cs.map (·.1)) 0 with
  |some i=>rfl
  | none =>
   simp only[Option.map_none];have hany:(cs.map (·.1)).any (fun r=>(w++[x]).isPrefixOf r)=true↔¬jF (w++[x]) t.beg=0:=by
    rw[hb,List.any_map,List.any_eq_true];constructor
    ·rintro ⟨p,hp,hpp⟩ h0;have:(cs.filter fun p=>(w++[x]).isPrefixOf p.1)=[]:=List.eq_nil_of_length_eq_zero (by omega);have hm:p∈cs.filter fun p=>(w++[x]).isPrefixOf p.1:=List.mem_filter.2 ⟨hp,hpp⟩
     rw[this]at hm;cases hm
    ·intro h0;cases hl:cs.filter fun p=>(w++[x]).isPrefixOf p.1 with
     |nil=>rw[hl]at h0;exact (h0 rfl).elim
     |cons p r =>
      have hm:p∈cs.filter fun p=>(w++[x]).isPrefixOf p.1:=by rw[hl];simp
      obtain⟨h1,h2⟩:=List.mem_filter.1 hm;exact⟨p,h1,h2⟩
   by_cases h0:jF (w++[x]) t.beg=0
   ·rw[if_pos h0,if_neg (fun e=>hany.1 e h0)];rfl
   ·rw[if_neg h0,if_pos (hany.2 h0)];exact rF h D (w++[x])
end Px
namespace Px
open Go Bt
attribute [local irreducible] aa ACalls
variable {gl:List (Nat×List D)}
def csL:List (List UInt8×Int):=[([49],7),([48,49],8)]
def TL:Tb:=ij (ij tb0 [49] 7) [48,49] 8
theorem cV:mk csL tb0=some TL:=by
 unfold csL;rw[vR,if_pos (by decide +kernel),vR,if_pos (by decide +kernel),Ej];rfl
theorem mP(rows:List (List UInt8)):∀(D w:List UInt8),(dB rows D w).2.1=0→0≤(dB rows D w).1∧(dB rows D w).1<rows.length
 |[],w,h=>by simp[dB]at h
 | x :: D, w, h => by
  rw[dB]at h ⊢;unfold jo at h ⊢;cases hf:lG (w++[x]) rows 0 with
  |some i =>
   have:=AX _ _ _ _ hf;simp only;omega
  | none =>
   rw[hf]at h;simp only at h ⊢;by_cases ha:rows.any (fun r=>(w++[x]).isPrefixOf r)=true
   ·rw[if_pos ha]at h ⊢;exact mP rows D (w++[x]) h
   ·rw[if_neg ha]at h;simp at h
attribute [local irreducible] cO fP bK yw ij mk oZ aG kr TL csL jw
end Px
end Go.Proofs.YtbpednchkndocaaGreatDoor.Av
