/- Contracts that hold over any tables: names; bytes. Contracts: rows of digits (outbits). Rows of texts, as cells. The reference's rows of bits: Row; the digits that Show tells are the reader's bits. The reference's packing of rows: Plain, Number, Pack; what is packed shows the row again. The reference's Pack; what is packed shows the row again. What is packed shows the row again. Contracts that hold over any tables: readers of bits. The reference's rows of bits: Show. The reference's rows of a table: begins, Take. The plain law of tables of rows: reading digit by digit. -/
import Derived.Test.YtbpednchkndocaaGreatDoorCx
import Derived.Test.YtbpednchkndocaaGreatDoorPc
set_option linter.unusedVariables false
set_option linter.unusedSimpArgs false
set_option maxRecDepth 100000
set_option maxHeartbeats 64000000
namespace Go.Proofs.YtbpednchkndocaaGreatDoor.Av
namespace Bt
open Go
attribute [local irreducible] aa ACalls
variable {gl:List (Nat×List D)}
abbrev I (n:Int):AV := .d (.int .i64 n)
abbrev B (b:Bool):AV := .d (.bool b)
abbrev S (s:List UInt8):AV := .d (.str s)
theorem wZ (s:List UInt8) (i:Nat):0≤bt s i∧bt s i≤255:=by
 have:=(s.getD i 0).toNat_lt
 unfold bt;omega
theorem AC (s:List UInt8) (i n:Nat):0≤bt s i / 2^n∧bt s i / 2^n≤255:=by
 have:=wZ s i
 have hp:(0:Int)<2^n:=Int.pow_pos (by decide)
 exact⟨Int.ediv_nonneg this.1 (by omega),Int.le_trans (Int.ediv_le_self _ this.1) this.2⟩
def dz (s:List UInt8) (p:Int):Int:=bt s (p / 8).toNat / 2^(7 - p%8).toNat%2
theorem jw (s:List UInt8) (p:Int):0≤dz s p∧dz s p≤1:=by
 unfold dz;omega
end Bt
namespace Bt
open Go
attribute [local irreducible] aa ACalls
variable {gl:List (Nat×List D)}
theorem zI (n:Nat):(0:Int)<2^n:=Int.pow_pos (by decide)
def dg (v:Int):UInt8:=UInt8.ofNat (48+(v%2).toNat)
def cH (v:Int) (n k:Nat):List UInt8:=(List.range k).map fun j=>dg (v / 2^(n - 1 - j))
theorem EL (v:Int) (n k:Nat):cH v n (k+1)=cH v n k++[dg (v / 2^(n - 1 - k))]:=by
 simp[cH,List.range_succ]
theorem gb (v:Int) (n k:Nat):(cH v n k).length=k:=by simp[cH]
attribute [local irreducible] dg cH
end Bt
namespace Bt
open Go
def bE (rows:List (List UInt8)):List D:=rows.map .str
theorem kN (rows:List (List UInt8)) (i:Nat) (h:i<rows.length):((bE rows).getD i .top).cells[0]?=some (.str (rows.getD i [])):=by
 simp[bE,List.getD,h,D.cells]
theorem gK (rows:List (List UInt8)):(bE rows).length=rows.length:=by simp[bE]
theorem nW {α:Type} (l:List α) (i:Nat) (x:α) (h:l[i]?=some x):l.drop i=x::l.drop (i+1):=by
 have hl:=aJ h
 rw[List.drop_eq_getElem_cons hl]
 congr 1
 simpa[hl]using h
end Bt
namespace Bt
open Go
attribute [local irreducible] aa ACalls
variable {gl:List (Nat×List D)}
theorem NJ (v:Int):(([48,49]:List UInt8).take (v%2+1).toNat).drop (v%2).toNat=[dg v]:=by
 have:v%2=0∨v%2=1:=by omega
 unfold dg
 rcases this with h|h<;>rw[h]<;>rfl
theorem vQ (v:Int) (i:Nat):v / 2^i / 2=v / 2^(i+1):=by
 rw[Int.ediv_ediv_of_nonneg (by exact Int.le_of_lt (Int.pow_pos (by decide))),←Int.pow_succ]
theorem EO (v:Int) (i:Nat):cH v (i+1) (i+1)=dg (v / 2^i)::cH v i i:=by
 unfold cH
 rw[List.range_succ_eq_map,List.map_cons,List.map_map]
 congr 1
 apply List.map_congr_left
 intro j hj
 simp only[Function.comp]
 congr 2
 have:i+1 - 1 - (j+1)=i - 1 - j:=by omega
 simp only[Nat.succ_eq_add_one,this]
def bM (x:Int):UInt8:=UInt8.ofNat (48+x.toNat)
theorem JK (v:Int):dg v=bM (v%2):=rfl
theorem HA (v:Int) (n k j:Nat) (hj:j<k):(cH v n k)[j]?=some (dg (v / 2^(n - 1 - j))):=by
 simp[cH,hj]
attribute [local irreducible] dg cH
theorem Le (v:Int) (n:Nat) (hn:n≤1000000) (hv:0≤v∧v≤4294967296):ACalls (cxg gl) 67 [I v,I n] [] (fun r H=>r=S (cH v n n)∧H=[]):=by
 have e0:cH v 0 0=[]:=by unfold cH;rfl
 refine ACalls.en Tryz.func67 Tryz.ntmps67 ?_
 repeat (first|refine aa.aD ?_|refine aa.bh true ?_|refine aa.ae ?_|refine aa.af ?_)
 refine aa.weak (env':=[(6,I 0),(5,S []),(1,I n),(0,I v)]) ⟨rfl,rfl,rfl,rfl,trivial⟩ ?_
 refine aa.loop (fun m env H=>∃i:Nat,m=n - i∧i≤n∧env=[(6,I (i:Int)),(5,S (cH v i i)),(1,I n),(0,I (v / 2^i))]∧H=[]) n
  ⟨0,by simp,by omega,by rw[e0,Int.pow_zero,Int.ediv_one];rfl,rfl⟩ ?_
 rintro m env H ⟨i,rfl,hi,rfl,rfl⟩
 have hl:=gb v i i
 have q0:0≤v / 2^i∧v / 2^i≤4294967296:=by
  have h2:=zI i
  exact⟨Int.ediv_nonneg hv.1 (by omega),Int.le_trans (Int.ediv_le_self _ hv.1) hv.2⟩
 rcases Nat.lt_or_ge i n with hlt|hge
 ·have hc:=EO v i
  have hd:=vQ v i
  generalize v / 2^i=x at *
  have he:=NJ x
  repeat (first|refine aa.aD ?_|(apply aa.q true;rfl;rfl;rfl;rfl;first|exact True.intro|omega|(simp only[tn,Int.reduceToNat];omega)|(simp only[List.length_drop,List.length_take,List.length_cons,List.length_nil,hl];omega))|refine aa.ae ?_|refine aa.af ?_)
  refine aa.round [(6,I ((i+1:Nat):Int)),(5,S (cH v (i+1) (i+1))),(1,I n),(0,I (v / 2^(i+1)))] (n - (i+1)) (by omega) ⟨rfl,?_,rfl,?_,trivial⟩ ⟨i+1,rfl,hlt,rfl,rfl⟩
  ·rw[hc]
   refine congrArg S ?_
   show _++_=_
   rw[show (dg x::cH v i i)=[dg x]++cH v i i from rfl,←he]
  ·rw[←hd];rfl
 ·obtain rfl:i=n:=by omega
  repeat (first|refine aa.aD ?_|refine aa.bh true ?_|refine aa.ae ?_|refine aa.af ?_)
  refine aa.out rfl ⟨_,rfl,?_⟩
  repeat (first|refine aa.aD ?_|refine aa.bh true ?_|refine aa.ae ?_|refine aa.af ?_)
  (apply aa.zy;rfl;rfl;rfl;rfl)
  exact⟨rfl,rfl⟩
theorem FR (v:Int) (hv:0≤v∧v≤255):ACalls (cxg gl) 67 [I v,I 8] [] (fun r H=>r=S (cH v 8 8)∧H=[]):=Le v 8 (by omega) (by omega)
def aS (s:List UInt8):List UInt8:=s.flatMap fun b=>cH (b.toNat:Int) 8 8
theorem cZ (s:List UInt8):(aS s).length=8*s.length:=by
 induction s with
 |nil=>rfl
 |cons b s ih=>simp only[aS,List.flatMap_cons,List.length_append,gb,List.length_cons]at ih ⊢;omega
theorem Bj (s:List UInt8) (i:Nat) (h:i<s.length):aS (s.take (i+1))=aS (s.take i)++cH (bt s i) 8 8:=by
 unfold aS
 rw[List.take_succ_eq_append_getElem h,List.flatMap_append]
 congr 1
 simp[bt,List.getD,h]
theorem Ct (s:List UInt8):aS (s.take 0)=[]:=rfl
theorem J0 (a:UInt8) (l:List UInt8) (i:Nat):bt (a::l) (i+1)=bt l i:=by simp[bt]
theorem D7 (s:List UInt8):∀(i j:Nat),i<s.length→j<8→(aS s)[8*i+j]?=(cH (bt s i) 8 8)[j]?:=by
 induction s with
 |nil=>intro i j h;simp at h
 |cons b s ih =>
  intro i j hi hj
  have e:aS (b::s)=cH (b.toNat:Int) 8 8++aS s:=by simp[aS]
  rw[e]
  cases i with
  |zero=>rw[List.getElem?_append_left (by rw[gb];omega)];simp[bt]
  |succ i =>
   rw[List.getElem?_append_right (by rw[gb];omega),gb,show 8*(i+1)+j - 8=8*i+j by omega,ih i j (by simpa using hi) hj,J0]
attribute [local irreducible] aS
theorem wo (s:List UInt8) (p:Int) (h0:0≤p) (h1:p<8*(s.length:Int)):(aS s)[p.toNat]?=some (bM (dz s p)):=by
 have e:p.toNat=8*(p / 8).toNat+(p%8).toNat:=by omega
 rw[e,D7 s _ _ (by omega) (by omega),HA _ _ _ _ (by omega),JK]
 unfold dz
 have:8 - 1 - (p%8).toNat=(7 - p%8).toNat:=by omega
 rw[this]
def ak (s:List UInt8) (p:Nat):List Int:=(List.range (8*s.length - p)).map fun j=>dz s ((p+j:Nat):Int)
theorem kP (s:List UInt8) (p:Nat) (h:8*s.length≤p):ak s p=[]:=by
 unfold ak;rw[show 8*s.length - p=0 by omega];rfl
theorem fO (s:List UInt8) (p:Nat) (h:p<8*s.length):ak s p=dz s p::ak s (p+1):=by
 unfold ak
 rw[show 8*s.length - p=(8*s.length - (p+1))+1 by omega,List.range_succ_eq_map,List.map_cons,List.map_map]
 congr 1
 apply List.map_congr_left
 intro j _
 simp only[Function.comp]
 congr 2
 omega
theorem bY (s:List UInt8) (p:Nat):(ak s p).length=8*s.length - p:=by simp[ak]
theorem iW (s:List UInt8) (p:Nat):(aS s).drop p=(ak s p).map bM:=by
 apply List.ext_getElem?
 intro j
 rw[List.getElem?_drop,List.getElem?_map]
 by_cases h:p+j<8*s.length
 ·have:=wo s ((p+j:Nat):Int) (by omega) (by omega)
  rw[Int.toNat_natCast]at this
  rw[this]
  simp[ak,show j<8*s.length - p by omega]
 ·rw[List.getElem?_eq_none (by rw[cZ];omega),List.getElem?_eq_none (by rw[bY];omega)];rfl
theorem cO (s:List UInt8) (p:Nat):∀b∈ak s p,b=0∨b=1:=by
 intro b hb
 obtain⟨j,_,rfl⟩:=List.mem_map.1 hb
 have:=jw s ((p+j:Nat):Int)
 omega
end Bt
namespace Bt
open Go
attribute [local irreducible] aa ACalls
variable {gl:List (Nat×List D)}
def bZ (c:UInt8):Bool:=decide (c=48)||decide (c=49)
theorem yH (s:List UInt8) (i:Nat) (c:UInt8) (h:s[i]?=some c):bt s i=(c.toNat:Int):=by simp[bt,List.getD,h]
theorem nE {c:UInt8} {n:Nat} (hn:n<256):((c.toNat:Int)=(n:Int))↔c=UInt8.ofNat n:=by
 constructor
 ·intro h
  have h':c.toNat=n:=by omega
  rw[←h'];simp
 ·rintro rfl
  simp;omega
theorem kg {c:UInt8} (h:bZ c=true):c=48∨c=49:=by simpa[bZ]using h
def gH (w:List UInt8):Int:=w.foldl (fun n c=>2*n+((c.toNat:Int) - 48)) 0
theorem kO (w:List UInt8) (c:UInt8):gH (w++[c])=2*gH w+((c.toNat:Int) - 48):=by simp[gH]
theorem lY {α:Type} {P:List α→Prop} (h0:P []) (h1:∀l x,P l→P (l++[x])):∀l,P l:=by
 intro l
 rw[←List.reverse_reverse l]
 induction l.reverse with
 |nil=>exact h0
 |cons x r ih=>rw[List.reverse_cons];exact h1 _ _ ih
theorem CQ (w:List UInt8):w.all bZ=true→0≤gH w∧gH w<2^w.length:=by
 refine lY (P:=fun w=>w.all bZ=true→0≤gH w∧gH w<2^w.length) (fun _=>by simp[gH]) (fun w c ih h=>?_) w
 rw[List.all_append,Bool.and_eq_true]at h
 obtain⟨i1,i2⟩:=ih h.1
 have hc:c=48∨c=49:=kg (by simpa using h.2)
 rw[kO,List.length_append,List.length_singleton,Int.pow_succ]
 rcases hc with rfl|rfl
 ·have e:(((48:UInt8).toNat:Nat):Int)=48:=rfl
  rw[e];omega
 ·have e:(((49:UInt8).toNat:Nat):Int)=49:=rfl
  rw[e];omega
theorem I4 {n:Nat} (h:n≤8):(2:Int)^n≤256:=by
 have:(2:Nat)^n≤2^8:=Nat.pow_le_pow_right (by omega) h
 have h2:((2^n:Nat):Int)=(2:Int)^n:=by simp
 omega
theorem l7 (w:List UInt8) (hw:w.length≤8) (hd:w.all bZ=true):ACalls (cxg gl) 130 [S w] [] (fun r H=>r=I (gH w)∧H=[]):=by
 refine ACalls.en Tryz.func130 Tryz.ntmps130 ?_
 repeat (first|refine aa.aD ?_|refine aa.bh true ?_|refine aa.ae ?_|refine aa.af ?_)
 refine aa.weak (env':=[(4,I 0),(3,I 0),(0,S w)]) ⟨rfl,rfl,rfl,trivial⟩ ?_
 refine aa.loop (fun m env H=>∃i:Nat,m=w.length - i∧i≤w.length∧env=[(4,I (i:Int)),(3,I (gH (w.take i))),(0,S w)]∧H=[]) w.length
  ⟨0,rfl,by omega,rfl,rfl⟩ ?_
 rintro m env H ⟨i,rfl,hi,rfl,rfl⟩
 have hall:(w.take i).all bZ=true:=by
  rw[List.all_eq_true]at hd ⊢
  exact fun x hx=>hd x (List.mem_of_mem_take hx)
 obtain⟨n1,n2⟩:=CQ _ hall
 have n3:=I4 (n:=(w.take i).length) (by rw[List.length_take];omega)
 rcases Nat.lt_or_ge i w.length with hlt|hge
 ·obtain⟨c,hc⟩:∃c,w[i]?=some c:=⟨_,List.getElem?_eq_getElem hlt⟩
  have hb:bt w (i:Int).toNat=(c.toNat:Int):=yH w i c hc
  have hcd:c=48∨c=49:=kg (List.all_eq_true.1 hd c (List.mem_of_getElem? hc))
  have hbd:(bt w (i:Int).toNat - 48)%256=(c.toNat:Int) - 48:=by
   rw[hb];rcases hcd with rfl|rfl<;>rfl
  have hbd2:0≤(bt w (i:Int).toNat - 48)%256∧(bt w (i:Int).toNat - 48)%256≤1:=by
   rw[hbd];rcases hcd with rfl|rfl<;>decide
  have ht:gH (w.take (i+1))=2*gH (w.take i)+(bt w (i:Int).toNat - 48)%256:=by
   rw[List.take_add_one,hc,hbd];exact kO _ _
  repeat' (first|refine aa.aD ?_|(apply aa.q true;rfl;rfl;rfl;rfl;first|exact True.intro|omega|(simp only[tn,Int.reduceToNat];omega)|omega)|refine aa.ae ?_|refine aa.af ?_|intro _|refine aa.av ?_|refine aa.aI ?_)
  all_goals first|(exact aa.round [(4,I ((i+1:Nat):Int)),(3,I (gH (w.take (i+1)))),(0,S w)] (w.length - (i+1)) (by omega) ⟨rfl,congrArg I ht.symm,rfl,trivial⟩ ⟨i+1,rfl,hlt,rfl,rfl⟩)
 ·obtain rfl:i=w.length:=by omega
  repeat' (first|refine aa.aD ?_|refine aa.bh true ?_|refine aa.ae ?_|refine aa.af ?_|intro _|refine aa.av ?_|refine aa.aI ?_)
  all_goals exact⟨by rw[List.take_length],rfl⟩
end Bt
namespace Bt
open Go
attribute [local irreducible] aa ACalls
variable {gl:List (Nat×List D)}
def bW (n:Nat):Nat:=(8 - n%8)%8
def qo (w:List UInt8):List UInt8:=w++List.replicate (bW w.length) 48
theorem CO (n:Nat):(n+bW n)%8=0∧bW n<8:=by unfold bW;omega
def Gj (L:List UInt8) (j:Nat):List UInt8:=(List.range j).map fun t=>UInt8.ofNat (gH ((L.drop (8*t)).take 8)).toNat
def dx (w:List UInt8):List UInt8:=Gj (qo w) ((qo w).length / 8)
theorem Gi (w:List UInt8):(qo w).length=w.length+bW w.length:=by simp[qo]
attribute [local irreducible] Gj gH
end Bt
namespace Bt
open Go
theorem EN (v:Int) (n:Nat):cH v (n+1) (n+1)=cH (v / 2) n n++[dg v]:=by
 rw[EL]
 congr 1
 ·unfold cH
  apply List.map_congr_left
  intro j hj
  have hj':j<n:=by simpa using hj
  have e:n+1 - 1 - j=(n - 1 - j)+1:=by omega
  rw[e,Int.ediv_ediv_of_nonneg (by decide),Int.pow_succ,Int.mul_comm (2^(n - 1 - j))]
 ·simp
theorem Hz (w:List UInt8):w.all bZ=true→cH (gH w) w.length w.length=w:=by
 refine lY (P:=fun w=>w.all bZ=true→cH (gH w) w.length w.length=w) (fun _=>rfl) (fun w c ih h=>?_) w
 rw[List.all_append,Bool.and_eq_true]at h
 have hc:c=48∨c=49:=kg (by simpa using h.2)
 rw[List.length_append,List.length_singleton,EN,kO]
 have e1:(2*gH w+((c.toNat:Int) - 48)) / 2=gH w:=by
  rcases hc with rfl|rfl
  ·have e:(((48:UInt8).toNat:Nat):Int)=48:=rfl
   rw[e];omega
  ·have e:(((49:UInt8).toNat:Nat):Int)=49:=rfl
   rw[e];omega
 have e2:dg (2*gH w+((c.toNat:Int) - 48))=c:=by
  unfold dg
  rcases hc with rfl|rfl
  ·have e:(((48:UInt8).toNat:Nat):Int)=48:=rfl
   rw[e,show (2*gH w+(48 - 48))%2=0 by omega];rfl
  ·have e:(((49:UInt8).toNat:Nat):Int)=49:=rfl
   rw[e,show (2*gH w+(49 - 48))%2=1 by omega];rfl
 rw[e1,e2,ih h.1]
def und (c:UInt8):Int:=(c.toNat:Int) - 48
theorem yY (b:Int) (h:b=0∨b=1):und (bM b)=b:=by rcases h with rfl|rfl<;>rfl
end Bt
namespace Bt
open Go
attribute [local irreducible] aa ACalls
variable {gl:List (Nat×List D)}
abbrev Rd (s:List UInt8) (at':Int):aM := .cells [S s,I at']
abbrev Ce (x:Int×Int):AV := .bK [I x.1,I x.2]
theorem zQ (s:List UInt8):ACalls (cxg gl) 12 [S s] [] (fun r H=>r = .ptr 0 0∧H=[Rd s 0]):=by
 refine ACalls.en Tryz.func12 Tryz.ntmps12 ?_
 repeat (first|refine aa.aD ?_|refine aa.bh true ?_|refine aa.ba ?_|refine aa.aL ?_)
 (apply aa.xB 1;rfl;rfl;rfl;rfl;rfl)
 exact⟨rfl,rfl⟩
def pk1 (s:List UInt8) (p:Int):Int×Int:=if 8*(s.length:Int) - p<1 then (0,2) else (dz s p,0)
def tk1 (s:List UInt8) (p:Int):Int:=if 8*(s.length:Int) - p<1 then p else p+1
theorem CM (s:List UInt8) (p:Int) (h0:0≤p) (hs:s.length<1000000000000000) (h1:p≤8*(s.length:Int)):ACalls (cxg gl) 198 [.ptr 0 0,I 1] [Rd s p] (fun r H=>r=Ce (pk1 s p)∧H=[Rd s p]):=by
 refine ACalls.en Tryz.func198 Tryz.ntmps198 ?_
 by_cases hp:8*(s.length:Int) - p<1
 ·repeat' (first|refine aa.aD ?_|refine aa.bh true ?_|refine aa.dK true ?_|refine aa.aV ?_|refine aa.aW ?_|refine aa.ae ?_|refine aa.af ?_|refine aa.ai ?_|apply aa.cK|apply aa.lpU|intro _|refine aa.av ?_)
  refine⟨?_,rfl⟩
  simp[pk1,hp]
 ·repeat' (first|refine aa.aD ?_|((first|apply aa.q true|apply aa.qq true);rfl;rfl;rfl;rfl;first|exact True.intro|omega|(simp only[tn,Int.reduceToNat];omega)|(exact⟨AC _ _ _,by decide⟩)|(simp only[Int.zero_mul,Int.toNat_zero,Nat.zero_or,Int.toNat_natCast,Int.reduceToNat,Nat.and_one_is_mod];omega))|refine aa.aV ?_|refine aa.aW ?_|refine aa.ae ?_|refine aa.af ?_|refine aa.ai ?_|apply aa.cK|apply aa.lpU|intro _|refine aa.av ?_)
  refine⟨?_,rfl⟩
  have b1:=AC s (p / 8).toNat (7 - p%8).toNat
  simp only[pk1,if_neg hp,Int.zero_add,Int.add_zero,Int.zero_mul,Int.toNat_zero,Nat.zero_or,Int.toNat_natCast,Int.reduceToNat,Nat.and_one_is_mod,dz]
  revert b1
  generalize bt s (p / 8).toNat / 2^(7 - p%8).toNat=A
  intro b1
  congr 4
  omega
theorem ol (s:List UInt8) (p:Int) (h0:0≤p) (hs:s.length<1000000000000000) (h1:p≤8*(s.length:Int)):ACalls (cxg gl) 186 [.ptr 0 0,I 1] [Rd s p] (fun r H=>r=Ce (pk1 s p)∧H=[Rd s (tk1 s p)]):=by
 refine ACalls.en Tryz.func186 Tryz.ntmps186 ?_
 by_cases hp:8*(s.length:Int) - p<1
 ·have e:(pk1 s p).2=2:=by simp[pk1,hp]
  repeat' (first|refine aa.aD ?_|refine aa.bh true ?_|refine aa.az [0] ( CM s p h0 hs h1) ?_|refine aa.ae ?_|refine aa.af ?_|refine aa.aA ?_|intro _|refine aa.av ?_)
  refine⟨rfl,?_⟩
  simp[tk1,hp]
 ·have e:(pk1 s p).2=0:=by simp[pk1,hp]
  repeat' (first|refine aa.aD ?_|refine aa.bh true ?_|refine aa.az [0] ( CM s p h0 hs h1) ?_|refine aa.ae ?_|refine aa.af ?_|refine aa.aA ?_|intro _|refine aa.av ?_)
  refine⟨rfl,?_⟩
  simp[tk1,hp]
theorem qX (s:List UInt8) (p:Int):ACalls (cxg gl) 19 [.ptr 0 0] [Rd s p] (fun r H=>r=I p∧H=[Rd s p]):=by
 refine ACalls.en Tryz.func19 Tryz.ntmps19 ?_
 repeat' (first|refine aa.aD ?_|refine aa.bh true ?_|refine aa.ai ?_|intro _|refine aa.av ?_)
 exact⟨rfl,rfl⟩
theorem FI (s:List UInt8) (p q:Int) (hs:s.length<1000000000000000):ACalls (cxg gl) 13 [.ptr 0 0,I q] [Rd s p] (fun r H=>r=I (if q<0∨8*(s.length:Int)<q then 1 else 0)∧H=[Rd s (if q<0∨8*(s.length:Int)<q then p else q)]):=by
 refine ACalls.en Tryz.func13 Tryz.ntmps13 ?_
 by_cases hq:q<0∨8*(s.length:Int)<q
 ·rw[if_pos hq,if_pos hq]
  repeat' (first|refine aa.aD ?_|refine aa.bh true ?_|refine aa.ae ?_|refine aa.af ?_|refine aa.au ?_|refine aa.aA ?_|refine aa.aj ?_|refine aa.bq ?_|refine aa.aB ?_|intro _|(apply aa.gD;rfl;rfl;rfl)|refine aa.av ?_)
  all_goals first|omega|exact⟨rfl,rfl⟩
 ·rw[if_neg hq,if_neg hq]
  repeat' (first|refine aa.aD ?_|refine aa.bh true ?_|refine aa.ae ?_|refine aa.af ?_|refine aa.au ?_|refine aa.aA ?_|refine aa.aj ?_|refine aa.bq ?_|refine aa.aB ?_|intro _|(apply aa.gD;rfl;rfl;rfl)|refine aa.av ?_)
  all_goals first|omega|exact⟨rfl,rfl⟩
theorem fG (s:List UInt8) (p q:Int) (hs:s.length<1000000000000000) (h:0≤q∧q≤8*(s.length:Int)):ACalls (cxg gl) 13 [.ptr 0 0,I q] [Rd s p] (fun r H=>r=I 0∧H=[Rd s q]):=by
 have:=FI (gl:=gl) s p q hs
 rwa [if_neg (by omega),if_neg (by omega)]at this
theorem FJ (s:List UInt8) (p q:Int) (hs:s.length<1000000000000000) (h:q<0∨8*(s.length:Int)<q):ACalls (cxg gl) 13 [.ptr 0 0,I q] [Rd s p] (fun r H=>r=I 1∧H=[Rd s p]):=by
 have:=FI (gl:=gl) s p q hs
 rwa [if_pos h,if_pos h]at this
end Bt
namespace Bt
open Go
attribute [local irreducible] aa ACalls
variable {gl:List (Nat×List D)}
attribute [local irreducible] aS
theorem K5 (s:List UInt8) (h:s.length≤1000000):ACalls (cxg gl) 17 [S s] [] (fun r H=>r=S (aS s)∧H=[]):=by
 refine ACalls.en Tryz.func17 Tryz.ntmps17 ?_
 repeat (first|refine aa.aD ?_|refine aa.bh true ?_|refine aa.ae ?_|refine aa.af ?_)
 refine aa.weak (env':=[(4,I 0),(3, .d .aY),(0,S s)]) ⟨rfl,rfl,rfl,trivial⟩ ?_
 refine aa.loop (fun m env H=>∃i:Nat,m=s.length - i∧i≤s.length∧((i=0∧env=[(4,I (i:Int)),(3, .d .aY),(0,S s)]∧H=[])∨(0<i∧env=[(4,I (i:Int)),(3, .own 1 (bO (aS (s.take i))) 0),(0,S s)]∧H=[.front 5 1 (bO (aS (s.take i))).length]))) s.length ⟨0,by simp,Nat.zero_le _, .inl ⟨rfl,rfl,rfl⟩⟩ ?_
 rintro n env H ⟨i,rfl,hi,hcase⟩
 have hb:=wZ s (i:Int).toNat
 have ht:i<s.length→aS (s.take (i+1))=aS (s.take i)++cH (bt s i) 8 8:=Bj s i
 have hl:=cZ (s.take i)
 have h8:=gb (bt s i) 8 8
 rw[List.length_take]at hl
 rcases Nat.lt_or_ge i s.length with hlt|hge
 ·rcases hcase with⟨hi0,rfl,rfl⟩|⟨h0,rfl,rfl⟩
  ·repeat (first|refine aa.aD ?_|(apply aa.append;(iterate 11 rfl);(first|rfl|(simp only[List.length_append,List.length_map,List.length_cons,List.length_nil];omega));(first|(simp only[List.length_append,List.length_map,List.length_cons,List.length_nil];omega)|(simp only[eZ,gb];omega));simp only[List.set_cons_zero,List.set_cons_succ])|(apply aa.gW;(iterate 10 rfl);(first|(simp only[List.length_append,List.length_map,List.length_cons,List.length_nil];omega)|(simp only[eZ,gb];omega));simp only[List.nil_append,List.cons_append,List.length_nil,List.length_cons,Nat.reduceAdd])|refine aa.xj ?_|refine aa.xk ?_|(apply aa.q true;rfl;rfl;rfl;rfl;first|exact True.intro|omega|(simp only[tn,Int.reduceToNat];omega)|(simp only[eZ,gb];omega))|refine aa.ah (FR _ (wZ _ _)) ?_|refine aa.ae ?_|refine aa.af ?_)
   refine aa.done ⟨[(4,I ((i+1:Nat):Int)),(3, .own 1 (bO (aS (s.take (i+1)))) 0),(0,S s)],s.length - (i+1),by omega,⟨rfl,?_,rfl,trivial⟩,i+1,rfl,hlt, .inr ⟨by omega,rfl,?_⟩⟩
   ·subst hi0
    rw[ht hlt,Ct,List.nil_append];rfl
   ·subst hi0
    rw[ht hlt,Ct,List.nil_append];rfl
  ·repeat (first|refine aa.aD ?_|(apply aa.append;(iterate 11 rfl);(first|rfl|(simp only[List.length_append,List.length_map,List.length_cons,List.length_nil];omega));(first|(simp only[List.length_append,List.length_map,List.length_cons,List.length_nil];omega)|(simp only[eZ,gb,hl];omega));simp only[List.set_cons_zero,List.set_cons_succ])|(apply aa.gW;(iterate 10 rfl);(first|(simp only[List.length_append,List.length_map,List.length_cons,List.length_nil];omega)|(simp only[eZ,gb,hl];omega));simp only[List.nil_append,List.cons_append,List.length_nil,List.length_cons,Nat.reduceAdd])|refine aa.xj ?_|refine aa.xk ?_|(apply aa.q true;rfl;rfl;rfl;rfl;first|exact True.intro|omega|(simp only[tn,Int.reduceToNat];omega)|(simp only[eZ,gb,hl];omega))|refine aa.ah (FR _ (wZ _ _)) ?_|refine aa.ae ?_|refine aa.af ?_)
   refine aa.done ⟨[(4,I ((i+1:Nat):Int)),(3, .own 1 (bO (aS (s.take (i+1)))) 0),(0,S s)],s.length - (i+1),by omega,⟨rfl,?_,rfl,trivial⟩,i+1,rfl,hlt, .inr ⟨by omega,rfl,?_⟩⟩
   ·rw[ht hlt,jP];rfl
   ·rw[ht hlt,jP];rfl
 ·rcases hcase with⟨hi0,rfl,rfl⟩|⟨h0,rfl,rfl⟩
  ·repeat (first|refine aa.aD ?_|refine aa.bh true ?_|refine aa.ae ?_|refine aa.af ?_)
   refine aa.out rfl ⟨_,rfl,?_⟩
   repeat (first|refine aa.aD ?_|(apply aa.append;(iterate 11 rfl);(first|rfl|(simp only[List.length_append,List.length_map,List.length_cons,List.length_nil];omega));((simp only[List.length_append,List.length_map,List.length_cons,List.length_nil];omega));simp only[List.set_cons_zero,List.set_cons_succ])|(apply aa.gW;(iterate 10 rfl);((simp only[List.length_append,List.length_map,List.length_cons,List.length_nil];omega));simp only[List.nil_append,List.cons_append,List.length_nil,List.length_cons,Nat.reduceAdd])|refine aa.xj ?_|refine aa.xk ?_|refine aa.bh true ?_|refine aa.ae ?_|refine aa.af ?_)
   (apply aa.zy;rfl;rfl;rfl;rfl)
   refine⟨?_,rfl⟩
   have:s=[]:=List.eq_nil_of_length_eq_zero (by omega)
   subst this
   unfold aS;rfl
  ·repeat (first|refine aa.aD ?_|refine aa.bh true ?_|refine aa.ae ?_|refine aa.af ?_)
   refine aa.out rfl ⟨_,rfl,?_⟩
   repeat (first|refine aa.aD ?_|(apply aa.append;(iterate 11 rfl);(first|rfl|(simp only[List.length_append,List.length_map,List.length_cons,List.length_nil];omega));((simp only[List.length_append,List.length_map,List.length_cons,List.length_nil];omega));simp only[List.set_cons_zero,List.set_cons_succ])|(apply aa.gW;(iterate 10 rfl);((simp only[List.length_append,List.length_map,List.length_cons,List.length_nil];omega));simp only[List.nil_append,List.cons_append,List.length_nil,List.length_cons,Nat.reduceAdd])|refine aa.xj ?_|refine aa.xk ?_|refine aa.bh true ?_|refine aa.ae ?_|refine aa.af ?_)
   (apply aa.zy;rfl;rfl;rfl;rfl)
   exact⟨by rw[List.take_of_length_le hge],rfl⟩
end Bt
namespace Bt
open Go
attribute [local irreducible] aa ACalls
variable {gl:List (Nat×List D)}
theorem I3 (s w:List UInt8) (h:w.length≤s.length):w.isPrefixOf s=decide (s.take w.length=w):=by
 rw[Bool.eq_iff_iff,List.isPrefixOf_iff_prefix,decide_eq_true_iff,List.prefix_iff_eq_take]
 exact eq_comm
theorem H6 (s w:List UInt8):ACalls (cxg gl) 238 [S s,S w] [] (fun r H=>r=B (w.isPrefixOf s)∧H=[]):=by
 refine ACalls.en Tryz.func238 Tryz.ntmps238 ?_
 by_cases h:w.length≤s.length
 ·rw[I3 s w h]
  repeat' (first|refine aa.aD ?_|refine aa.bh true ?_|refine aa.aj ?_|refine aa.bL ?_|refine aa.bq ?_|refine aa.aB ?_|intro _|refine aa.av ?_)
  all_goals refine⟨?_,rfl⟩
  all_goals simp
 ·have e:w.isPrefixOf s=false:=by
   rw[Bool.eq_false_iff]
   intro hp
   exact h (List.isPrefixOf_iff_prefix.1 hp).length_le
  rw[e]
  repeat' (first|refine aa.aD ?_|refine aa.bh true ?_|refine aa.aj ?_|refine aa.bL ?_|refine aa.bq ?_|refine aa.aB ?_|intro _|refine aa.av ?_)
  all_goals exact⟨rfl,rfl⟩
def gu (w:List UInt8):List (List UInt8)→Nat→Option Nat
 |[],_=>none
 |r::rs,i=>if r=w then some i else gu w rs (i+1)
def t5 (rows:List (List UInt8)) (L:List UInt8) (p:Nat):Nat→Nat→Int×Int×Int
 |0,_=>(0,p,3)
 |k+1,n=>if L.length<p+n then (0,p,2) else
  match gu ((L.drop p).take n) rows 0 with
  |some i=>(i,((p+n:Nat):Int),0)
  |none=>if rows.any (fun r=>((L.drop p).take n).isPrefixOf r) then t5 rows L p k (n+1) else (0,p,3)
theorem Fp {α:Type} (l:List α) (p:α→Bool) (i:Nat) (x:α) (h:l[i]?=some x):(l.take (i+1)).any p=((l.take i).any p||p x):=by
 have hl:=aJ h
 rw[List.take_add_one,h]
 simp
attribute [local irreducible] bE
abbrev Tri (x:Int×Int×Int):AV := .bK [I x.1,I x.2.1,I x.2.2]
theorem tz (rows:List (List UInt8)) (L:List UInt8) (p:Nat) (hr:rows.length≤1000000) (hL:L.length≤1000000) (hp:p≤1000000) :
  ACalls (cxg gl) 202 [.d (.sl 1 (bE rows)),S L,I p] [] (fun r H=>r=Tri (t5 rows L p 25 1)∧H=[]):=by
 have hrl:=gK rows
 refine ACalls.en Tryz.func202 Tryz.ntmps202 ?_
 repeat (first|refine aa.aD ?_|refine aa.bh true ?_|refine aa.dK true ?_|refine aa.aV ?_|refine aa.ae ?_|refine aa.af ?_|refine aa.au ?_|refine aa.ai ?_|refine aa.aU ?_|refine aa.aK ?_|refine aa.bD ?_|refine aa.cG ?_)
 refine aa.weak (env':=[(9,I 1),(2,I p),(1,S L),(0, .d (.sl 1 (bE rows)))]) ⟨rfl,rfl,rfl,rfl,trivial⟩ ?_
 refine aa.loop (fun m env H=>∃k:Nat,m=25 - k∧k≤25∧t5 rows L p (25 - k) (k+1)=t5 rows L p 25 1∧env=[(9,I ((k+1:Nat):Int)),(2,I p),(1,S L),(0, .d (.sl 1 (bE rows)))]∧H=[]) 25
  ⟨0,rfl,by omega,rfl,rfl,rfl⟩ ?_
 rintro m env H ⟨k,rfl,hk,ht,rfl,rfl⟩
 rcases Nat.lt_or_ge k 25 with hlt|hge
 ·rw[show 25 - k=(25 - (k+1))+1 by omega,t5]at ht
  by_cases hs:L.length<p+(k+1)
  ·rw[if_pos hs]at ht
   repeat' (first|refine aa.aD ?_|refine aa.bh true ?_|refine aa.dK true ?_|refine aa.aV ?_|refine aa.ae ?_|refine aa.af ?_|refine aa.au ?_|refine aa.ai ?_|refine aa.aU ?_|refine aa.aK ?_|refine aa.bD ?_|refine aa.cG ?_|intro _|refine aa.av ?_|refine aa.aP ?_|refine aa.iT ?_|refine aa.aI ?_)
   exact⟨by rw[←ht],rfl⟩
  ·rw[if_neg hs]at ht
   have hw:(L.take ((p:Int)+((k+1:Nat):Int)).toNat).drop (p:Int).toNat=(L.drop p).take (k+1):=by
    rw[show ((p:Int)+((k+1:Nat):Int)).toNat=p+(k+1) by omega,Int.toNat_natCast,List.drop_take]
    congr 1;omega
   generalize hwe:(L.drop p).take (k+1)=w at *
   repeat (first|refine aa.aD ?_|refine aa.bh true ?_|refine aa.dK true ?_|refine aa.aV ?_|refine aa.ae ?_|refine aa.af ?_|refine aa.au ?_|refine aa.ai ?_|refine aa.aU ?_|refine aa.aK ?_|refine aa.bD ?_|refine aa.cG ?_)
   refine aa.weak (env':=[(11,I 0),(10,B false),(9,I ((k+1:Nat):Int)),(2,I p),(1,S L),(0, .d (.sl 1 (bE rows)))]) ⟨rfl,rfl,rfl,rfl,rfl,rfl,trivial⟩ ?_
   refine aa.loop (fun m env H=>∃(i:Nat) (sm:Bool),m=rows.length - i∧i≤rows.length∧gu w (rows.drop i) i=gu w rows 0∧sm=(rows.take i).any (fun r=>w.isPrefixOf r) ∧
    env=[(11,I (i:Int)),(10,B sm),(9,I ((k+1:Nat):Int)),(2,I p),(1,S L),(0, .d (.sl 1 (bE rows)))]∧H=[]) rows.length
    ⟨0,false,rfl,by omega,rfl,rfl,rfl,rfl⟩ ?_
   rintro m env H ⟨i,sm,rfl,hi,hf,hsm,rfl,rfl⟩
   rcases Nat.lt_or_ge i rows.length with hil|hig
   ·obtain⟨x,hx⟩:∃x,rows[i]?=some x:=⟨_,List.getElem?_eq_getElem hil⟩
    have g1:((bE rows).getD i .top).cells[0]?=some (.str x):=by rw[kN rows i hil];simp[List.getD,hx]
    rw[nW _ _ _ hx,gu]at hf
    have ha:=Fp rows (fun r=>w.isPrefixOf r) i x hx
    rw[←hsm]at ha
    have hb:=H6 (gl:=gl) x w
    by_cases hxw:x=w
    ·rw[if_pos hxw]at hf
     rw[←hf]at ht
     have hd:decide (x=(L.take ((p:Int)+((k+1:Nat):Int)).toNat).drop (p:Int).toNat)=true:=by rw[hw];exact decide_eq_true hxw
     repeat' (first|refine aa.aD ?_|refine aa.bh true ?_|refine aa.dK true ?_|refine aa.aV ?_|refine aa.ae ?_|refine aa.af ?_|refine aa.au ?_|refine aa.ai ?_|refine aa.aU ?_|(apply aa.cBT;rfl;first|(simp only[bT];omega)|(exact hd))|(apply aa.cBF;rfl;first|(simp only[bF];omega)|exact ndF rfl|(exact hd))|refine aa.cG ?_|(apply aa.Bx;(iterate 7 rfl);exact g1)|intro _|refine aa.av ?_|refine aa.aP ?_|refine aa.iT ?_|refine aa.aI ?_)
     exact⟨by rw[←ht];rfl,rfl⟩
    ·rw[if_neg hxw]at hf
     have hd:decide (x=(L.take ((p:Int)+((k+1:Nat):Int)).toNat).drop (p:Int).toNat)=false:=by rw[hw];exact decide_eq_false hxw
     rw[←hw]at hb
     cases sm
     ·repeat' (first|refine aa.aD ?_|refine aa.bh true ?_|refine aa.dK true ?_|refine aa.bI (hb) ?_|refine aa.aV ?_|refine aa.ae ?_|refine aa.af ?_|refine aa.au ?_|refine aa.ai ?_|refine aa.aU ?_|(apply aa.cBT;rfl;first|(simp only[bT];omega)|(exact hd))|(apply aa.cBF;rfl;first|(simp only[bF];omega)|exact ndF rfl|(exact hd))|refine aa.cG ?_|(apply aa.Bx;(iterate 7 rfl);exact g1)|intro _|refine aa.av ?_|refine aa.aP ?_|refine aa.iT ?_|refine aa.aI ?_)
      refine aa.round [(11,I ((i+1:Nat):Int)),(10,B ((rows.take (i+1)).any (fun r=>w.isPrefixOf r))),(9,I ((k+1:Nat):Int)),(2,I p),(1,S L),(0, .d (.sl 1 (bE rows)))] (rows.length - (i+1)) (by omega) ⟨rfl,?_,rfl,rfl,rfl,rfl,trivial⟩ ⟨i+1,_,rfl,hil,hf,rfl,rfl,rfl⟩
      rw[ha,←hw]
      rfl
     ·repeat' (first|refine aa.aD ?_|refine aa.bh true ?_|refine aa.dK true ?_|refine aa.bI (hb) ?_|refine aa.aV ?_|refine aa.ae ?_|refine aa.af ?_|refine aa.au ?_|refine aa.ai ?_|refine aa.aU ?_|(apply aa.cBT;rfl;first|(simp only[bT];omega)|(exact hd))|(apply aa.cBF;rfl;first|(simp only[bF];omega)|exact ndF rfl|(exact hd))|refine aa.cG ?_|(apply aa.Bx;(iterate 7 rfl);exact g1)|intro _|refine aa.av ?_|refine aa.aP ?_|refine aa.iT ?_|refine aa.aI ?_)
      refine aa.round [(11,I ((i+1:Nat):Int)),(10,B ((rows.take (i+1)).any (fun r=>w.isPrefixOf r))),(9,I ((k+1:Nat):Int)),(2,I p),(1,S L),(0, .d (.sl 1 (bE rows)))] (rows.length - (i+1)) (by omega) ⟨rfl,?_,rfl,rfl,rfl,rfl,trivial⟩ ⟨i+1,_,rfl,hil,hf,rfl,rfl,rfl⟩
      rw[ha]
      rfl
   ·obtain rfl:i=rows.length:=by omega
    rw[List.drop_length,gu]at hf
    rw[←hf]at ht
    simp only at ht
    rw[List.take_length]at hsm
    rw[←hsm]at ht
    cases sm
    ·repeat' (first|refine aa.aD ?_|refine aa.bh true ?_|refine aa.dK true ?_|refine aa.aV ?_|refine aa.ae ?_|refine aa.af ?_|refine aa.au ?_|refine aa.ai ?_|refine aa.aU ?_|refine aa.aK ?_|refine aa.bD ?_|refine aa.cG ?_|intro _|refine aa.av ?_|refine aa.aP ?_|refine aa.iT ?_|refine aa.aI ?_)
     exact⟨by rw[←ht];rfl,rfl⟩
    ·repeat' (first|refine aa.aD ?_|refine aa.bh true ?_|refine aa.dK true ?_|refine aa.aV ?_|refine aa.ae ?_|refine aa.af ?_|refine aa.au ?_|refine aa.ai ?_|refine aa.aU ?_|refine aa.aK ?_|refine aa.bD ?_|refine aa.cG ?_|intro _|refine aa.av ?_|refine aa.aP ?_|refine aa.iT ?_|refine aa.aI ?_)
     exact aa.round [(9,I ((k+1+1:Nat):Int)),(2,I p),(1,S L),(0, .d (.sl 1 (bE rows)))] (25 - (k+1)) (by omega) ⟨rfl,rfl,rfl,rfl,trivial⟩ ⟨k+1,rfl,hlt,ht,rfl,rfl⟩
 ·obtain rfl:k=25:=by omega
  repeat (first|refine aa.aD ?_|refine aa.bh true ?_|refine aa.dK true ?_|refine aa.aV ?_|refine aa.ae ?_|refine aa.af ?_|refine aa.au ?_|refine aa.ai ?_|refine aa.aU ?_|refine aa.aK ?_|refine aa.bD ?_|refine aa.cG ?_)
  refine aa.out rfl ⟨_,rfl,?_⟩
  repeat (first|refine aa.aD ?_|refine aa.bh true ?_|refine aa.dK true ?_|refine aa.aV ?_|refine aa.ae ?_|refine aa.af ?_|refine aa.au ?_|refine aa.ai ?_|refine aa.aU ?_|refine aa.aK ?_|refine aa.bD ?_|refine aa.cG ?_)
  (apply aa.zy;rfl;rfl;rfl;rfl)
  exact⟨by rw[←ht];rfl,rfl⟩
end Bt
namespace Bt
open Go
inductive RR where
 |done (i:Nat) (c:Nat)|fail|next (w:List UInt8)
def iH (rows:List (List UInt8)) (w:List UInt8) (x:UInt8):RR :=
 match gu (w++[x]) rows 0 with
 |some i => .done i (w.length+1)
 |none=>if rows.any (fun r=>(w++[x]).isPrefixOf r) then .next (w++[x]) else .fail
def cV (rows:List (List UInt8)):List UInt8→List UInt8→Int×Int×Nat
 |[],_=>(0,2,0)
 |x::r,w=>match iH rows w x with
  | .done i c=>((i:Int),0,c)
  | .fail=>(0,3,0)
  | .next w'=>cV rows r w'
def oU (p:Nat) (x:Int×Int×Nat):Int×Int×Int:=if x.2.1=0 then (x.1,((p+x.2.2:Nat):Int),0) else (0,(p:Int),x.2.1)
theorem J8 {rows:List (List UInt8)} {w:List UInt8} (h:rows.any (fun r=>w.isPrefixOf r)=true):∃r∈rows,w.length≤r.length:=by
 obtain⟨r,hr,hp⟩:=List.any_eq_true.1 h
 exact⟨r,hr,(List.isPrefixOf_iff_prefix.1 hp).length_le⟩
theorem Cq (rows:List (List UInt8)) (L:List UInt8) (p:Nat) (hr:∀r∈rows,r.length≤24) (hp:p≤L.length):∀(D w:List UInt8) (k:Nat),L.drop p=w++D→w.length+1+k=26→(w=[]∨rows.any (fun r=>w.isPrefixOf r)=true) →
  t5 rows L p k (w.length+1)=oU p (cV rows D w)
 |D,w,0,hd,hk,hw=>by
  rcases hw with rfl|hw
  ·simp at hk
  ·obtain⟨r,h1,h2⟩:=J8 hw
   have:=hr r h1
   omega
 |[],w,k+1,hd,hk,hw=>by
  rw[List.append_nil]at hd
  have hl:L.length=p+w.length:=by rw[←hd,List.length_drop];omega
  rw[t5,if_pos (by omega)]
  rfl
 |x::D,w,k+1,hd,hk,hw=>by
  have hl:L.length=p+(w.length+1+D.length):=by
   have:=congrArg List.length hd
   simp at this;omega
  have e:(L.drop p).take (w.length+1)=w++[x]:=by
   rw[hd,List.take_append,List.take_of_length_le (by omega)]
   simp
  rw[t5,if_neg (by omega),e,cV,iH]
  cases hf:gu (w++[x]) rows 0 with
  |some i=>simp[oU]
  |none =>
   simp only
   by_cases ha:rows.any (fun r=>(w++[x]).isPrefixOf r)=true
   ·rw[if_pos ha,if_pos ha]
    have:=Cq rows L p hr hp D (w++[x]) k (by rw[hd];simp) (by simp;omega) (.inr ha)
    rw[List.length_append]at this
    exact this
   ·rw[if_neg ha,if_neg ha]
    rfl
theorem rA (rows:List (List UInt8)) (L:List UInt8) (p:Nat) (hr:∀r∈rows,r.length≤24) (hp:p≤L.length):t5 rows L p 25 1=oU p (cV rows (L.drop p) []) :=
 Cq rows L p hr hp (L.drop p) [] 25 rfl rfl (.inl rfl)
end Bt
end Go.Proofs.YtbpednchkndocaaGreatDoor.Av
