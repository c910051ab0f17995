/- Contracts that hold over any tables: names; bytes. Contracts: rows of digits (outbits). Rows of texts, as cells. The reference's rows of bits: Row; the digits that Show tells are the reader's bits. The reference's packing of rows: Plain, Number, Pack; what is packed shows the row again. The reference's Pack; what is packed shows the row again. What is packed shows the row again. Contracts that hold over any tables: readers of bits. The reference's rows of bits: Show. The reference's rows of a table: begins, Take. The plain law of tables of rows: reading digit by digit. -/
import Derived.Test.YtbpednchkndocaaGreatDoorCx
import Derived.Test.YtbpednchkndocaaGreatDoorPc
set_option linter.unusedVariables false
set_option linter.unusedSimpArgs false
set_option maxRecDepth 100000
set_option maxHeartbeats 64000000
namespace Go.Proofs.YtbpednchkndocaaGreatDoor.Av
namespace Bt
open Go
attribute [local irreducible] aa ACalls
variable {gl:List (Nat×List D)}
abbrev I (n:Int):AV := .d (.int .i64 n)
abbrev B (b:Bool):AV := .d (.bool b)
abbrev S (s:List UInt8):AV := .d (.str s)
theorem wB (s:List UInt8) (i:Nat):0≤bt s i∧bt s i≤255:=by
 have:=(s.getD i 0).toNat_lt
 unfold bt;omega
theorem zZ (s:List UInt8) (i n:Nat):0≤bt s i / 2^n∧bt s i / 2^n≤255:=by
 have:=wB s i
 have hp:(0:Int)<2^n:=Int.pow_pos (by decide)
 exact⟨Int.ediv_nonneg this.1 (by omega),Int.le_trans (Int.ediv_le_self _ this.1) this.2⟩
def cz (s:List UInt8) (p:Int):Int:=bt s (p / 8).toNat / 2^(7 - p%8).toNat%2
theorem iQ (s:List UInt8) (p:Int):0≤cz s p∧cz s p≤1:=by
 unfold cz;omega
end Bt
namespace Bt
open Go
attribute [local irreducible] aa ACalls
variable {gl:List (Nat×List D)}
theorem yY (n:Nat):(0:Int)<2^n:=Int.pow_pos (by decide)
def dg (v:Int):UInt8:=UInt8.ofNat (48+(v%2).toNat)
def bL (v:Int) (n k:Nat):List UInt8:=(List.range k).map fun j=>dg (v / 2^(n - 1 - j))
theorem Eu (v:Int) (n k:Nat):bL v n (k+1)=bL v n k++[dg (v / 2^(n - 1 - k))]:=by
 simp[bL,List.range_succ]
theorem eU (v:Int) (n k:Nat):(bL v n k).length=k:=by simp[bL]
attribute [local irreducible] dg bL
end Bt
namespace Bt
open Go
def aS (rows:List (List UInt8)):List D:=rows.map .str
theorem jS (rows:List (List UInt8)) (i:Nat) (h:i<rows.length):((aS rows).getD i .top).cells[0]?=some (.str (rows.getD i [])):=by
 simp[aS,List.getD,h,D.cells]
theorem fG (rows:List (List UInt8)):(aS rows).length=rows.length:=by simp[aS]
theorem mU {α:Type} (l:List α) (i:Nat) (x:α) (h:l[i]?=some x):l.drop i=x::l.drop (i+1):=by
 have hl:=ak h
 rw[List.drop_eq_getElem_cons hl]
 congr 1
 simpa[hl]using h
end Bt
namespace Bt
open Go
attribute [local irreducible] aa ACalls
variable {gl:List (Nat×List D)}
theorem NN (v:Int):(([48,49]:List UInt8).take (v%2+1).toNat).drop (v%2).toNat=[dg v]:=by
 have:v%2=0∨v%2=1:=by omega
 unfold dg
 rcases this with h|h<;>rw[h]<;>rfl
theorem vh (v:Int) (i:Nat):v / 2^i / 2=v / 2^(i+1):=by
 rw[Int.ediv_ediv_of_nonneg (by exact Int.le_of_lt (Int.pow_pos (by decide))),←Int.pow_succ]
theorem Ex (v:Int) (i:Nat):bL v (i+1) (i+1)=dg (v / 2^i)::bL v i i:=by
 unfold bL
 rw[List.range_succ_eq_map,List.map_cons,List.map_map]
 congr 1
 apply List.map_congr_left
 intro j hj
 simp only[Function.comp]
 congr 2
 have:i+1 - 1 - (j+1)=i - 1 - j:=by omega
 simp only[Nat.succ_eq_add_one,this]
def aY (x:Int):UInt8:=UInt8.ofNat (48+x.toNat)
theorem JH (v:Int):dg v=aY (v%2):=rfl
theorem Hp (v:Int) (n k j:Nat) (hj:j<k):(bL v n k)[j]?=some (dg (v / 2^(n - 1 - j))):=by
 simp[bL,hj]
attribute [local irreducible] dg bL
theorem Lc (v:Int) (n:Nat) (hn:n≤1000000) (hv:0≤v∧v≤4294967296):ACalls (cxg gl) 67 [I v,I n] [] (fun r H=>r=S (bL v n n)∧H=[]):=by
 have e0:bL v 0 0=[]:=by unfold bL;rfl
 refine ACalls.en Tryz.func67 Tryz.ntmps67 ?_
 repeat (first|refine aa.dG ?_)
 refine aa.weak (env':=[(6,I 0),(5,S []),(1,I n),(0,I v)]) ⟨rfl,rfl,rfl,rfl,trivial⟩ ?_
 refine aa.loop (fun m env H=>∃i:Nat,m=n - i∧i≤n∧env=[(6,I (i:Int)),(5,S (bL v i i)),(1,I n),(0,I (v / 2^i))]∧H=[]) n
  ⟨0,by simp,by omega,by rw[e0,Int.pow_zero,Int.ediv_one];rfl,rfl⟩ ?_
 rintro m env H ⟨i,rfl,hi,rfl,rfl⟩
 have hl:=eU v i i
 have q0:0≤v / 2^i∧v / 2^i≤4294967296:=by
  have h2:=yY i
  exact⟨Int.ediv_nonneg hv.1 (by omega),Int.le_trans (Int.ediv_le_self _ hv.1) hv.2⟩
 rcases Nat.lt_or_ge i n with hlt|hge
 ·have hc:=Ex v i
  have hd:=vh v i
  generalize v / 2^i=x at *
  have he:=NN x
  repeat (first|(apply aa.q true;rfl;rfl;rfl;rfl;first|exact True.intro|omega|(simp only[tn,Int.reduceToNat];omega)|(simp only[List.length_drop,List.length_take,List.length_cons,List.length_nil,hl];omega))|refine aa.dG ?_)
  refine aa.round [(6,I ((i+1:Nat):Int)),(5,S (bL v (i+1) (i+1))),(1,I n),(0,I (v / 2^(i+1)))] (n - (i+1)) (by omega) ⟨rfl,?_,rfl,?_,trivial⟩ ⟨i+1,rfl,hlt,rfl,rfl⟩
  ·rw[hc]
   refine congrArg S ?_
   show _++_=_
   rw[show (dg x::bL v i i)=[dg x]++bL v i i from rfl,←he]
  ·rw[←hd];rfl
 ·obtain rfl:i=n:=by omega
  repeat (first|refine aa.dG ?_)
  refine aa.out rfl ⟨_,rfl,?_⟩
  repeat (first|refine aa.dG ?_)
  (apply aa.yP;rfl;rfl;rfl;rfl)
  exact⟨rfl,rfl⟩
theorem FC (v:Int) (hv:0≤v∧v≤255):ACalls (cxg gl) 67 [I v,I 8] [] (fun r H=>r=S (bL v 8 8)∧H=[]):=Lc v 8 (by omega) (by omega)
def aC (s:List UInt8):List UInt8:=s.flatMap fun b=>bL (b.toNat:Int) 8 8
theorem bX (s:List UInt8):(aC s).length=8*s.length:=by
 induction s with
 |nil=>rfl
 |cons b s ih=>simp only[aC,List.flatMap_cons,List.length_append,eU,List.length_cons]at ih ⊢;omega
theorem AC (s:List UInt8) (i:Nat) (h:i<s.length):aC (s.take (i+1))=aC (s.take i)++bL (bt s i) 8 8:=by
 unfold aC
 rw[List.take_succ_eq_append_getElem h,List.flatMap_append]
 congr 1
 simp[bt,List.getD,h]
theorem BN (s:List UInt8):aC (s.take 0)=[]:=rfl
theorem JX (a:UInt8) (l:List UInt8) (i:Nat):bt (a::l) (i+1)=bt l i:=by simp[bt]
theorem DG (s:List UInt8):∀(i j:Nat),i<s.length→j<8→(aC s)[8*i+j]?=(bL (bt s i) 8 8)[j]?:=by
 induction s with
 |nil=>intro i j h;simp at h
 |cons b s ih =>
  intro i j hi hj
  have e:aC (b::s)=bL (b.toNat:Int) 8 8++aC s:=by simp[aC]
  rw[e]
  cases i with
  |zero=>rw[List.getElem?_append_left (by rw[eU];omega)];simp[bt]
  |succ i =>
   rw[List.getElem?_append_right (by rw[eU];omega),eU,show 8*(i+1)+j - 8=8*i+j by omega,ih i j (by simpa using hi) hj,JX]
attribute [local irreducible] aC
theorem vE (s:List UInt8) (p:Int) (h0:0≤p) (h1:p<8*(s.length:Int)):(aC s)[p.toNat]?=some (aY (cz s p)):=by
 have e:p.toNat=8*(p / 8).toNat+(p%8).toNat:=by omega
 rw[e,DG s _ _ (by omega) (by omega),Hp _ _ _ _ (by omega),JH]
 unfold cz
 have:8 - 1 - (p%8).toNat=(7 - p%8).toNat:=by omega
 rw[this]
def af (s:List UInt8) (p:Nat):List Int:=(List.range (8*s.length - p)).map fun j=>cz s ((p+j:Nat):Int)
theorem jU (s:List UInt8) (p:Nat) (h:8*s.length≤p):af s p=[]:=by
 unfold af;rw[show 8*s.length - p=0 by omega];rfl
theorem eG (s:List UInt8) (p:Nat) (h:p<8*s.length):af s p=cz s p::af s (p+1):=by
 unfold af
 rw[show 8*s.length - p=(8*s.length - (p+1))+1 by omega,List.range_succ_eq_map,List.map_cons,List.map_map]
 congr 1
 apply List.map_congr_left
 intro j _
 simp only[Function.comp]
 congr 2
 omega
theorem bz (s:List UInt8) (p:Nat):(af s p).length=8*s.length - p:=by simp[af]
theorem ik (s:List UInt8) (p:Nat):(aC s).drop p=(af s p).map aY:=by
 apply List.ext_getElem?
 intro j
 rw[List.getElem?_drop,List.getElem?_map]
 by_cases h:p+j<8*s.length
 ·have:=vE s ((p+j:Nat):Int) (by omega) (by omega)
  rw[Int.toNat_natCast]at this
  rw[this]
  simp[af,show j<8*s.length - p by omega]
 ·rw[List.getElem?_eq_none (by rw[bX];omega),List.getElem?_eq_none (by rw[bz];omega)];rfl
theorem bR (s:List UInt8) (p:Nat):∀b∈af s p,b=0∨b=1:=by
 intro b hb
 obtain⟨j,_,rfl⟩:=List.mem_map.1 hb
 have:=iQ s ((p+j:Nat):Int)
 omega
end Bt
namespace Bt
open Go
attribute [local irreducible] aa ACalls
variable {gl:List (Nat×List D)}
def bC (c:UInt8):Bool:=decide (c=48)||decide (c=49)
theorem xY (s:List UInt8) (i:Nat) (c:UInt8) (h:s[i]?=some c):bt s i=(c.toNat:Int):=by simp[bt,List.getD,h]
theorem mr {c:UInt8} {n:Nat} (hn:n<256):((c.toNat:Int)=(n:Int))↔c=UInt8.ofNat n:=by
 constructor
 ·intro h
  have h':c.toNat=n:=by omega
  rw[←h'];simp
 ·rintro rfl
  simp;omega
theorem jA {c:UInt8} (h:bC c=true):c=48∨c=49:=by simpa[bC]using h
def fC (w:List UInt8):Int:=w.foldl (fun n c=>2*n+((c.toNat:Int) - 48)) 0
theorem jT (w:List UInt8) (c:UInt8):fC (w++[c])=2*fC w+((c.toNat:Int) - 48):=by simp[fC]
theorem kW {α:Type} {P:List α→Prop} (h0:P []) (h1:∀l x,P l→P (l++[x])):∀l,P l:=by
 intro l
 rw[←List.reverse_reverse l]
 induction l.reverse with
 |nil=>exact h0
 |cons x r ih=>rw[List.reverse_cons];exact h1 _ _ ih
theorem Cu (w:List UInt8):w.all bC=true→0≤fC w∧fC w<2^w.length:=by
 refine kW (P:=fun w=>w.all bC=true→0≤fC w∧fC w<2^w.length) (fun _=>by simp[fC]) (fun w c ih h=>?_) w
 rw[List.all_append,Bool.and_eq_true]at h
 obtain⟨i1,i2⟩:=ih h.1
 have hc:c=48∨c=49:=jA (by simpa using h.2)
 rw[jT,List.length_append,List.length_singleton,Int.pow_succ]
 rcases hc with rfl|rfl
 ·have e:(((48:UInt8).toNat:Nat):Int)=48:=rfl
  rw[e];omega
 ·have e:(((49:UInt8).toNat:Nat):Int)=49:=rfl
  rw[e];omega
theorem IZ {n:Nat} (h:n≤8):(2:Int)^n≤256:=by
 have:(2:Nat)^n≤2^8:=Nat.pow_le_pow_right (by omega) h
 have h2:((2^n:Nat):Int)=(2:Int)^n:=by simp
 omega
theorem kZ (w:List UInt8) (hw:w.length≤8) (hd:w.all bC=true):ACalls (cxg gl) 130 [S w] [] (fun r H=>r=I (fC w)∧H=[]):=by
 refine ACalls.en Tryz.func130 Tryz.ntmps130 ?_
 repeat (first|refine aa.dG ?_)
 refine aa.weak (env':=[(4,I 0),(3,I 0),(0,S w)]) ⟨rfl,rfl,rfl,trivial⟩ ?_
 refine aa.loop (fun m env H=>∃i:Nat,m=w.length - i∧i≤w.length∧env=[(4,I (i:Int)),(3,I (fC (w.take i))),(0,S w)]∧H=[]) w.length
  ⟨0,rfl,by omega,rfl,rfl⟩ ?_
 rintro m env H ⟨i,rfl,hi,rfl,rfl⟩
 have hall:(w.take i).all bC=true:=by
  rw[List.all_eq_true]at hd ⊢
  exact fun x hx=>hd x (List.mem_of_mem_take hx)
 obtain⟨n1,n2⟩:=Cu _ hall
 have n3:=IZ (n:=(w.take i).length) (by rw[List.length_take];omega)
 rcases Nat.lt_or_ge i w.length with hlt|hge
 ·obtain⟨c,hc⟩:∃c,w[i]?=some c:=⟨_,List.getElem?_eq_getElem hlt⟩
  have hb:bt w (i:Int).toNat=(c.toNat:Int):=xY w i c hc
  have hcd:c=48∨c=49:=jA (List.all_eq_true.1 hd c (List.mem_of_getElem? hc))
  have hbd:(bt w (i:Int).toNat - 48)%256=(c.toNat:Int) - 48:=by
   rw[hb];rcases hcd with rfl|rfl<;>rfl
  have hbd2:0≤(bt w (i:Int).toNat - 48)%256∧(bt w (i:Int).toNat - 48)%256≤1:=by
   rw[hbd];rcases hcd with rfl|rfl<;>decide
  have ht:fC (w.take (i+1))=2*fC (w.take i)+(bt w (i:Int).toNat - 48)%256:=by
   rw[List.take_add_one,hc,hbd];exact jT _ _
  repeat' (first|(apply aa.q true;rfl;rfl;rfl;rfl;first|exact True.intro|omega|(simp only[tn,Int.reduceToNat];omega)|omega)|intro _|refine aa.aR ?_)
  all_goals first|(exact aa.round [(4,I ((i+1:Nat):Int)),(3,I (fC (w.take (i+1)))),(0,S w)] (w.length - (i+1)) (by omega) ⟨rfl,congrArg I ht.symm,rfl,trivial⟩ ⟨i+1,rfl,hlt,rfl,rfl⟩)
 ·obtain rfl:i=w.length:=by omega
  repeat' (first|intro _|refine aa.aR ?_)
  all_goals exact⟨by rw[List.take_length],rfl⟩
end Bt
namespace Bt
open Go
attribute [local irreducible] aa ACalls
variable {gl:List (Nat×List D)}
def bv (n:Nat):Nat:=(8 - n%8)%8
def pG (w:List UInt8):List UInt8:=w++List.replicate (bv w.length) 48
theorem Cr (n:Nat):(n+bv n)%8=0∧bv n<8:=by unfold bv;omega
def F6 (L:List UInt8) (j:Nat):List UInt8:=(List.range j).map fun t=>UInt8.ofNat (fC ((L.drop (8*t)).take 8)).toNat
def cn (w:List UInt8):List UInt8:=F6 (pG w) ((pG w).length / 8)
theorem F5 (w:List UInt8):(pG w).length=w.length+bv w.length:=by simp[pG]
attribute [local irreducible] F6 fC
end Bt
namespace Bt
open Go
theorem Ew (v:Int) (n:Nat):bL v (n+1) (n+1)=bL (v / 2) n n++[dg v]:=by
 rw[Eu]
 congr 1
 ·unfold bL
  apply List.map_congr_left
  intro j hj
  have hj':j<n:=by simpa using hj
  have e:n+1 - 1 - j=(n - 1 - j)+1:=by omega
  rw[e,Int.ediv_ediv_of_nonneg (by decide),Int.pow_succ,Int.mul_comm (2^(n - 1 - j))]
 ·simp
theorem Ho (w:List UInt8):w.all bC=true→bL (fC w) w.length w.length=w:=by
 refine kW (P:=fun w=>w.all bC=true→bL (fC w) w.length w.length=w) (fun _=>rfl) (fun w c ih h=>?_) w
 rw[List.all_append,Bool.and_eq_true]at h
 have hc:c=48∨c=49:=jA (by simpa using h.2)
 rw[List.length_append,List.length_singleton,Ew,jT]
 have e1:(2*fC w+((c.toNat:Int) - 48)) / 2=fC w:=by
  rcases hc with rfl|rfl
  ·have e:(((48:UInt8).toNat:Nat):Int)=48:=rfl
   rw[e];omega
  ·have e:(((49:UInt8).toNat:Nat):Int)=49:=rfl
   rw[e];omega
 have e2:dg (2*fC w+((c.toNat:Int) - 48))=c:=by
  unfold dg
  rcases hc with rfl|rfl
  ·have e:(((48:UInt8).toNat:Nat):Int)=48:=rfl
   rw[e,show (2*fC w+(48 - 48))%2=0 by omega];rfl
  ·have e:(((49:UInt8).toNat:Nat):Int)=49:=rfl
   rw[e,show (2*fC w+(49 - 48))%2=1 by omega];rfl
 rw[e1,e2,ih h.1]
def und (c:UInt8):Int:=(c.toNat:Int) - 48
theorem yz (b:Int) (h:b=0∨b=1):und (aY b)=b:=by rcases h with rfl|rfl<;>rfl
end Bt
namespace Bt
open Go
attribute [local irreducible] aa ACalls
variable {gl:List (Nat×List D)}
abbrev Rd (s:List UInt8) (at':Int):au := .cells [S s,I at']
abbrev BC (x:Int×Int):AV := .aX [I x.1,I x.2]
theorem zl (s:List UInt8):ACalls (cxg gl) 12 [S s] [] (fun r H=>r = .ptr 0 0∧H=[Rd s 0]):=by
 refine ACalls.en Tryz.func12 Tryz.ntmps12 ?_
 repeat (first|refine aa.dG ?_)
 (apply aa.wV 1;rfl;rfl;rfl;rfl;rfl)
 exact⟨rfl,rfl⟩
def pk1 (s:List UInt8) (p:Int):Int×Int:=if 8*(s.length:Int) - p<1 then (0,2) else (cz s p,0)
def tk1 (s:List UInt8) (p:Int):Int:=if 8*(s.length:Int) - p<1 then p else p+1
theorem Cn (s:List UInt8) (p:Int) (h0:0≤p) (hs:s.length<1000000000000000) (h1:p≤8*(s.length:Int)):ACalls (cxg gl) 198 [.ptr 0 0,I 1] [Rd s p] (fun r H=>r=BC (pk1 s p)∧H=[Rd s p]):=by
 refine ACalls.en Tryz.func198 Tryz.ntmps198 ?_
 by_cases hp:8*(s.length:Int) - p<1
 ·repeat' (first|refine aa.bN true ?_|apply aa.bO|apply aa.lpU|intro _|refine aa.aR ?_)
  refine⟨?_,rfl⟩
  simp[pk1,hp]
 ·repeat' (first|((first|apply aa.q true|apply aa.qq true);rfl;rfl;rfl;rfl;first|exact True.intro|omega|(simp only[tn,Int.reduceToNat];omega)|(exact⟨zZ _ _ _,by decide⟩)|(simp only[Int.zero_mul,Int.toNat_zero,Nat.zero_or,Int.toNat_natCast,Int.reduceToNat,Nat.and_one_is_mod];omega))|apply aa.bO|apply aa.lpU|intro _|refine aa.aR ?_)
  refine⟨?_,rfl⟩
  have b1:=zZ s (p / 8).toNat (7 - p%8).toNat
  simp only[pk1,if_neg hp,Int.zero_add,Int.add_zero,Int.zero_mul,Int.toNat_zero,Nat.zero_or,Int.toNat_natCast,Int.reduceToNat,Nat.and_one_is_mod,cz]
  revert b1
  generalize bt s (p / 8).toNat / 2^(7 - p%8).toNat=A
  intro b1
  congr 4
  omega
theorem nu (s:List UInt8) (p:Int) (h0:0≤p) (hs:s.length<1000000000000000) (h1:p≤8*(s.length:Int)):ACalls (cxg gl) 186 [.ptr 0 0,I 1] [Rd s p] (fun r H=>r=BC (pk1 s p)∧H=[Rd s (tk1 s p)]):=by
 refine ACalls.en Tryz.func186 Tryz.ntmps186 ?_
 by_cases hp:8*(s.length:Int) - p<1
 ·have e:(pk1 s p).2=2:=by simp[pk1,hp]
  repeat' (first|refine aa.ah [0] ( Cn s p h0 hs h1) ?_|intro _|refine aa.bA ?_)
  refine⟨rfl,?_⟩
  simp[tk1,hp]
 ·have e:(pk1 s p).2=0:=by simp[pk1,hp]
  repeat' (first|refine aa.ah [0] ( Cn s p h0 hs h1) ?_|intro _|refine aa.bA ?_)
  refine⟨rfl,?_⟩
  simp[tk1,hp]
theorem qw (s:List UInt8) (p:Int):ACalls (cxg gl) 19 [.ptr 0 0] [Rd s p] (fun r H=>r=I p∧H=[Rd s p]):=by
 refine ACalls.en Tryz.func19 Tryz.ntmps19 ?_
 repeat' (first|intro _|refine aa.bA ?_)
 exact⟨rfl,rfl⟩
theorem Ft (s:List UInt8) (p q:Int) (hs:s.length<1000000000000000):ACalls (cxg gl) 13 [.ptr 0 0,I q] [Rd s p] (fun r H=>r=I (if q<0∨8*(s.length:Int)<q then 1 else 0)∧H=[Rd s (if q<0∨8*(s.length:Int)<q then p else q)]):=by
 refine ACalls.en Tryz.func13 Tryz.ntmps13 ?_
 by_cases hq:q<0∨8*(s.length:Int)<q
 ·rw[if_pos hq,if_pos hq]
  repeat' (first|refine aa.bN true ?_|intro _|(apply aa.gD;rfl;rfl;rfl)|refine aa.bA ?_)
  all_goals first|omega|exact⟨rfl,rfl⟩
 ·rw[if_neg hq,if_neg hq]
  repeat' (first|refine aa.bN true ?_|intro _|(apply aa.gD;rfl;rfl;rfl)|refine aa.bA ?_)
  all_goals first|omega|exact⟨rfl,rfl⟩
theorem ed (s:List UInt8) (p q:Int) (hs:s.length<1000000000000000) (h:0≤q∧q≤8*(s.length:Int)):ACalls (cxg gl) 13 [.ptr 0 0,I q] [Rd s p] (fun r H=>r=I 0∧H=[Rd s q]):=by
 have:=Ft (gl:=gl) s p q hs
 rwa [if_neg (by omega),if_neg (by omega)]at this
theorem Fu (s:List UInt8) (p q:Int) (hs:s.length<1000000000000000) (h:q<0∨8*(s.length:Int)<q):ACalls (cxg gl) 13 [.ptr 0 0,I q] [Rd s p] (fun r H=>r=I 1∧H=[Rd s p]):=by
 have:=Ft (gl:=gl) s p q hs
 rwa [if_pos h,if_pos h]at this
end Bt
namespace Bt
open Go
attribute [local irreducible] aa ACalls
variable {gl:List (Nat×List D)}
attribute [local irreducible] aC
theorem K3 (s:List UInt8) (h:s.length≤1000000):ACalls (cxg gl) 17 [S s] [] (fun r H=>r=S (aC s)∧H=[]):=by
 refine ACalls.en Tryz.func17 Tryz.ntmps17 ?_
 repeat (first|refine aa.dG ?_)
 refine aa.weak (env':=[(4,I 0),(3, .d .aG),(0,S s)]) ⟨rfl,rfl,rfl,trivial⟩ ?_
 refine aa.loop (fun m env H=>∃i:Nat,m=s.length - i∧i≤s.length∧((i=0∧env=[(4,I (i:Int)),(3, .d .aG),(0,S s)]∧H=[])∨(0<i∧env=[(4,I (i:Int)),(3, .own 1 (ba (aC (s.take i))) 0),(0,S s)]∧H=[.front 5 1 (ba (aC (s.take i))).length]))) s.length ⟨0,by simp,Nat.zero_le _, .inl ⟨rfl,rfl,rfl⟩⟩ ?_
 rintro n env H ⟨i,rfl,hi,hcase⟩
 have hb:=wB s (i:Int).toNat
 have ht:i<s.length→aC (s.take (i+1))=aC (s.take i)++bL (bt s i) 8 8:=AC s i
 have hl:=bX (s.take i)
 have h8:=eU (bt s i) 8 8
 rw[List.length_take]at hl
 rcases Nat.lt_or_ge i s.length with hlt|hge
 ·rcases hcase with⟨hi0,rfl,rfl⟩|⟨h0,rfl,rfl⟩
  ·repeat (first|(apply aa.append;(iterate 11 rfl);(first|rfl|(simp only[List.length_append,List.length_map,List.length_cons,List.length_nil];omega));(first|(simp only[List.length_append,List.length_map,List.length_cons,List.length_nil];omega)|(simp only[dR,eU];omega));simp only[List.set_cons_zero,List.set_cons_succ])|(apply aa.fS;(iterate 10 rfl);(first|(simp only[List.length_append,List.length_map,List.length_cons,List.length_nil];omega)|(simp only[dR,eU];omega));simp only[List.nil_append,List.cons_append,List.length_nil,List.length_cons,Nat.reduceAdd])|refine aa.wK ?_|refine aa.wL ?_|(apply aa.q true;rfl;rfl;rfl;rfl;first|exact True.intro|omega|(simp only[tn,Int.reduceToNat];omega)|(simp only[dR,eU];omega))|refine aa.ae (FC _ (wB _ _)) ?_|refine aa.dG ?_)
   refine aa.done ⟨[(4,I ((i+1:Nat):Int)),(3, .own 1 (ba (aC (s.take (i+1)))) 0),(0,S s)],s.length - (i+1),by omega,⟨rfl,?_,rfl,trivial⟩,i+1,rfl,hlt, .inr ⟨by omega,rfl,?_⟩⟩
   ·subst hi0
    rw[ht hlt,BN,List.nil_append];rfl
   ·subst hi0
    rw[ht hlt,BN,List.nil_append];rfl
  ·repeat (first|(apply aa.append;(iterate 11 rfl);(first|rfl|(simp only[List.length_append,List.length_map,List.length_cons,List.length_nil];omega));(first|(simp only[List.length_append,List.length_map,List.length_cons,List.length_nil];omega)|(simp only[dR,eU,hl];omega));simp only[List.set_cons_zero,List.set_cons_succ])|(apply aa.fS;(iterate 10 rfl);(first|(simp only[List.length_append,List.length_map,List.length_cons,List.length_nil];omega)|(simp only[dR,eU,hl];omega));simp only[List.nil_append,List.cons_append,List.length_nil,List.length_cons,Nat.reduceAdd])|refine aa.wK ?_|refine aa.wL ?_|(apply aa.q true;rfl;rfl;rfl;rfl;first|exact True.intro|omega|(simp only[tn,Int.reduceToNat];omega)|(simp only[dR,eU,hl];omega))|refine aa.ae (FC _ (wB _ _)) ?_|refine aa.dG ?_)
   refine aa.done ⟨[(4,I ((i+1:Nat):Int)),(3, .own 1 (ba (aC (s.take (i+1)))) 0),(0,S s)],s.length - (i+1),by omega,⟨rfl,?_,rfl,trivial⟩,i+1,rfl,hlt, .inr ⟨by omega,rfl,?_⟩⟩
   ·rw[ht hlt,ji];rfl
   ·rw[ht hlt,ji];rfl
 ·rcases hcase with⟨hi0,rfl,rfl⟩|⟨h0,rfl,rfl⟩
  ·repeat (first|refine aa.dG ?_)
   refine aa.out rfl ⟨_,rfl,?_⟩
   repeat (first|(apply aa.append;(iterate 11 rfl);(first|rfl|(simp only[List.length_append,List.length_map,List.length_cons,List.length_nil];omega));((simp only[List.length_append,List.length_map,List.length_cons,List.length_nil];omega));simp only[List.set_cons_zero,List.set_cons_succ])|(apply aa.fS;(iterate 10 rfl);((simp only[List.length_append,List.length_map,List.length_cons,List.length_nil];omega));simp only[List.nil_append,List.cons_append,List.length_nil,List.length_cons,Nat.reduceAdd])|refine aa.wK ?_|refine aa.wL ?_|refine aa.bN true ?_|refine aa.dG ?_)
   (apply aa.yP;rfl;rfl;rfl;rfl)
   refine⟨?_,rfl⟩
   have:s=[]:=List.eq_nil_of_length_eq_zero (by omega)
   subst this
   unfold aC;rfl
  ·repeat (first|refine aa.dG ?_)
   refine aa.out rfl ⟨_,rfl,?_⟩
   repeat (first|(apply aa.append;(iterate 11 rfl);(first|rfl|(simp only[List.length_append,List.length_map,List.length_cons,List.length_nil];omega));((simp only[List.length_append,List.length_map,List.length_cons,List.length_nil];omega));simp only[List.set_cons_zero,List.set_cons_succ])|(apply aa.fS;(iterate 10 rfl);((simp only[List.length_append,List.length_map,List.length_cons,List.length_nil];omega));simp only[List.nil_append,List.cons_append,List.length_nil,List.length_cons,Nat.reduceAdd])|refine aa.wK ?_|refine aa.wL ?_|refine aa.bN true ?_|refine aa.dG ?_)
   (apply aa.yP;rfl;rfl;rfl;rfl)
   exact⟨by rw[List.take_of_length_le hge],rfl⟩
end Bt
namespace Bt
open Go
attribute [local irreducible] aa ACalls
variable {gl:List (Nat×List D)}
theorem IY (s w:List UInt8) (h:w.length≤s.length):w.isPrefixOf s=decide (s.take w.length=w):=by
 rw[Bool.eq_iff_iff,List.isPrefixOf_iff_prefix,decide_eq_true_iff,List.prefix_iff_eq_take]
 exact eq_comm
theorem HQ (s w:List UInt8):ACalls (cxg gl) 238 [S s,S w] [] (fun r H=>r=B (w.isPrefixOf s)∧H=[]):=by
 refine ACalls.en Tryz.func238 Tryz.ntmps238 ?_
 by_cases h:w.length≤s.length
 ·rw[IY s w h]
  repeat' (first|intro _|refine aa.bA ?_)
  all_goals refine⟨?_,rfl⟩
  all_goals simp
 ·have e:w.isPrefixOf s=false:=by
   rw[Bool.eq_false_iff]
   intro hp
   exact h (List.isPrefixOf_iff_prefix.1 hp).length_le
  rw[e]
  repeat' (first|intro _|refine aa.bA ?_)
  all_goals exact⟨rfl,rfl⟩
def fq (w:List UInt8):List (List UInt8)→Nat→Option Nat
 |[],_=>none
 |r::rs,i=>if r=w then some i else fq w rs (i+1)
def t5 (rows:List (List UInt8)) (L:List UInt8) (p:Nat):Nat→Nat→Int×Int×Int
 |0,_=>(0,p,3)
 |k+1,n=>if L.length<p+n then (0,p,2) else
  match fq ((L.drop p).take n) rows 0 with
  |some i=>(i,((p+n:Nat):Int),0)
  |none=>if rows.any (fun r=>((L.drop p).take n).isPrefixOf r) then t5 rows L p k (n+1) else (0,p,3)
theorem EW {α:Type} (l:List α) (p:α→Bool) (i:Nat) (x:α) (h:l[i]?=some x):(l.take (i+1)).any p=((l.take i).any p||p x):=by
 have hl:=ak h
 rw[List.take_add_one,h]
 simp
attribute [local irreducible] aS
abbrev Tri (x:Int×Int×Int):AV := .aX [I x.1,I x.2.1,I x.2.2]
theorem rZ (rows:List (List UInt8)) (L:List UInt8) (p:Nat) (hr:rows.length≤1000000) (hL:L.length≤1000000) (hp:p≤1000000) :
  ACalls (cxg gl) 202 [.d (.sl 1 (aS rows)),S L,I p] [] (fun r H=>r=Tri (t5 rows L p 25 1)∧H=[]):=by
 have hrl:=fG rows
 refine ACalls.en Tryz.func202 Tryz.ntmps202 ?_
 repeat (first|refine aa.iR ?_)
 refine aa.weak (env':=[(9,I 1),(2,I p),(1,S L),(0, .d (.sl 1 (aS rows)))]) ⟨rfl,rfl,rfl,rfl,trivial⟩ ?_
 refine aa.loop (fun m env H=>∃k:Nat,m=25 - k∧k≤25∧t5 rows L p (25 - k) (k+1)=t5 rows L p 25 1∧env=[(9,I ((k+1:Nat):Int)),(2,I p),(1,S L),(0, .d (.sl 1 (aS rows)))]∧H=[]) 25
  ⟨0,rfl,by omega,rfl,rfl,rfl⟩ ?_
 rintro m env H ⟨k,rfl,hk,ht,rfl,rfl⟩
 rcases Nat.lt_or_ge k 25 with hlt|hge
 ·rw[show 25 - k=(25 - (k+1))+1 by omega,t5]at ht
  by_cases hs:L.length<p+(k+1)
  ·rw[if_pos hs]at ht
   repeat' (first|intro _|refine aa.aR ?_)
   exact⟨by rw[←ht],rfl⟩
  ·rw[if_neg hs]at ht
   have hw:(L.take ((p:Int)+((k+1:Nat):Int)).toNat).drop (p:Int).toNat=(L.drop p).take (k+1):=by
    rw[show ((p:Int)+((k+1:Nat):Int)).toNat=p+(k+1) by omega,Int.toNat_natCast,List.drop_take]
    congr 1;omega
   generalize hwe:(L.drop p).take (k+1)=w at *
   repeat (first|refine aa.iR ?_)
   refine aa.weak (env':=[(11,I 0),(10,B false),(9,I ((k+1:Nat):Int)),(2,I p),(1,S L),(0, .d (.sl 1 (aS rows)))]) ⟨rfl,rfl,rfl,rfl,rfl,rfl,trivial⟩ ?_
   refine aa.loop (fun m env H=>∃(i:Nat) (sm:Bool),m=rows.length - i∧i≤rows.length∧fq w (rows.drop i) i=fq w rows 0∧sm=(rows.take i).any (fun r=>w.isPrefixOf r) ∧
    env=[(11,I (i:Int)),(10,B sm),(9,I ((k+1:Nat):Int)),(2,I p),(1,S L),(0, .d (.sl 1 (aS rows)))]∧H=[]) rows.length
    ⟨0,false,rfl,by omega,rfl,rfl,rfl,rfl⟩ ?_
   rintro m env H ⟨i,sm,rfl,hi,hf,hsm,rfl,rfl⟩
   rcases Nat.lt_or_ge i rows.length with hil|hig
   ·obtain⟨x,hx⟩:∃x,rows[i]?=some x:=⟨_,List.getElem?_eq_getElem hil⟩
    have g1:((aS rows).getD i .top).cells[0]?=some (.str x):=by rw[jS rows i hil];simp[List.getD,hx]
    rw[mU _ _ _ hx,fq]at hf
    have ha:=EW rows (fun r=>w.isPrefixOf r) i x hx
    rw[←hsm]at ha
    have hb:=HQ (gl:=gl) x w
    by_cases hxw:x=w
    ·rw[if_pos hxw]at hf
     rw[←hf]at ht
     have hd:decide (x=(L.take ((p:Int)+((k+1:Nat):Int)).toNat).drop (p:Int).toNat)=true:=by rw[hw];exact decide_eq_true hxw
     repeat' (first|refine aa.bN true ?_|(apply aa.cBT;rfl;first|(simp only[bT];omega)|(exact hd))|(apply aa.cBF;rfl;first|(simp only[bF];omega)|exact ndF rfl|(exact hd))|(apply aa.AZ;(iterate 7 rfl);exact g1)|intro _|refine aa.aR ?_)
     exact⟨by rw[←ht];rfl,rfl⟩
    ·rw[if_neg hxw]at hf
     have hd:decide (x=(L.take ((p:Int)+((k+1:Nat):Int)).toNat).drop (p:Int).toNat)=false:=by rw[hw];exact decide_eq_false hxw
     rw[←hw]at hb
     cases sm
     ·repeat' (first|refine aa.bN true ?_|refine aa.aV (hb) ?_|(apply aa.cBT;rfl;first|(simp only[bT];omega)|(exact hd))|(apply aa.cBF;rfl;first|(simp only[bF];omega)|exact ndF rfl|(exact hd))|(apply aa.AZ;(iterate 7 rfl);exact g1)|intro _|refine aa.aR ?_)
      refine aa.round [(11,I ((i+1:Nat):Int)),(10,B ((rows.take (i+1)).any (fun r=>w.isPrefixOf r))),(9,I ((k+1:Nat):Int)),(2,I p),(1,S L),(0, .d (.sl 1 (aS rows)))] (rows.length - (i+1)) (by omega) ⟨rfl,?_,rfl,rfl,rfl,rfl,trivial⟩ ⟨i+1,_,rfl,hil,hf,rfl,rfl,rfl⟩
      rw[ha,←hw]
      rfl
     ·repeat' (first|refine aa.bN true ?_|refine aa.aV (hb) ?_|(apply aa.cBT;rfl;first|(simp only[bT];omega)|(exact hd))|(apply aa.cBF;rfl;first|(simp only[bF];omega)|exact ndF rfl|(exact hd))|(apply aa.AZ;(iterate 7 rfl);exact g1)|intro _|refine aa.aR ?_)
      refine aa.round [(11,I ((i+1:Nat):Int)),(10,B ((rows.take (i+1)).any (fun r=>w.isPrefixOf r))),(9,I ((k+1:Nat):Int)),(2,I p),(1,S L),(0, .d (.sl 1 (aS rows)))] (rows.length - (i+1)) (by omega) ⟨rfl,?_,rfl,rfl,rfl,rfl,trivial⟩ ⟨i+1,_,rfl,hil,hf,rfl,rfl,rfl⟩
      rw[ha]
      rfl
   ·obtain rfl:i=rows.length:=by omega
    rw[List.drop_length,fq]at hf
    rw[←hf]at ht
    simp only at ht
    rw[List.take_length]at hsm
    rw[←hsm]at ht
    cases sm
    ·repeat' (first|intro _|refine aa.aR ?_)
     exact⟨by rw[←ht];rfl,rfl⟩
    ·repeat' (first|intro _|refine aa.aR ?_)
     exact aa.round [(9,I ((k+1+1:Nat):Int)),(2,I p),(1,S L),(0, .d (.sl 1 (aS rows)))] (25 - (k+1)) (by omega) ⟨rfl,rfl,rfl,rfl,trivial⟩ ⟨k+1,rfl,hlt,ht,rfl,rfl⟩
 ·obtain rfl:k=25:=by omega
  repeat (first|refine aa.iR ?_)
  refine aa.out rfl ⟨_,rfl,?_⟩
  repeat (first|refine aa.iR ?_)
  (apply aa.yP;rfl;rfl;rfl;rfl)
  exact⟨by rw[←ht];rfl,rfl⟩
end Bt
namespace Bt
open Go
inductive RR where
 |done (i:Nat) (c:Nat)|fail|next (w:List UInt8)
def gN (rows:List (List UInt8)) (w:List UInt8) (x:UInt8):RR :=
 match fq (w++[x]) rows 0 with
 |some i => .done i (w.length+1)
 |none=>if rows.any (fun r=>(w++[x]).isPrefixOf r) then .next (w++[x]) else .fail
def bV (rows:List (List UInt8)):List UInt8→List UInt8→Int×Int×Nat
 |[],_=>(0,2,0)
 |x::r,w=>match gN rows w x with
  | .done i c=>((i:Int),0,c)
  | .fail=>(0,3,0)
  | .next w'=>bV rows r w'
def nX (p:Nat) (x:Int×Int×Nat):Int×Int×Int:=if x.2.1=0 then (x.1,((p+x.2.2:Nat):Int),0) else (0,(p:Int),x.2.1)
theorem J5 {rows:List (List UInt8)} {w:List UInt8} (h:rows.any (fun r=>w.isPrefixOf r)=true):∃r∈rows,w.length≤r.length:=by
 obtain⟨r,hr,hp⟩:=List.any_eq_true.1 h
 exact⟨r,hr,(List.isPrefixOf_iff_prefix.1 hp).length_le⟩
theorem BL (rows:List (List UInt8)) (L:List UInt8) (p:Nat) (hr:∀r∈rows,r.length≤24) (hp:p≤L.length):∀(D w:List UInt8) (k:Nat),L.drop p=w++D→w.length+1+k=26→(w=[]∨rows.any (fun r=>w.isPrefixOf r)=true) →
  t5 rows L p k (w.length+1)=nX p (bV rows D w)
 |D,w,0,hd,hk,hw=>by
  rcases hw with rfl|hw
  ·simp at hk
  ·obtain⟨r,h1,h2⟩:=J5 hw
   have:=hr r h1
   omega
 |[],w,k+1,hd,hk,hw=>by
  rw[List.append_nil]at hd
  have hl:L.length=p+w.length:=by rw[←hd,List.length_drop];omega
  rw[t5,if_pos (by omega)]
  rfl
 |x::D,w,k+1,hd,hk,hw=>by
  have hl:L.length=p+(w.length+1+D.length):=by
   have:=congrArg List.length hd
   simp at this;omega
  have e:(L.drop p).take (w.length+1)=w++[x]:=by
   rw[hd,List.take_append,List.take_of_length_le (by omega)]
   simp
  rw[t5,if_neg (by omega),e,bV,gN]
  cases hf:fq (w++[x]) rows 0 with
  |some i=>simp[nX]
  |none =>
   simp only
   by_cases ha:rows.any (fun r=>(w++[x]).isPrefixOf r)=true
   ·rw[if_pos ha,if_pos ha]
    have:=BL rows L p hr hp D (w++[x]) k (by rw[hd];simp) (by simp;omega) (.inr ha)
    rw[List.length_append]at this
    exact this
   ·rw[if_neg ha,if_neg ha]
    rfl
theorem qB (rows:List (List UInt8)) (L:List UInt8) (p:Nat) (hr:∀r∈rows,r.length≤24) (hp:p≤L.length):t5 rows L p 25 1=nX p (bV rows (L.drop p) []) :=
 BL rows L p hr hp (L.drop p) [] 25 rfl rfl (.inl rfl)
end Bt
end Go.Proofs.YtbpednchkndocaaGreatDoor.Av
