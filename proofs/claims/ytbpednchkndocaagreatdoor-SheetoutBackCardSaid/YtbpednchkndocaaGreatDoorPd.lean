/- Contracts that hold over any tables: names; bytes. Contracts: rows of digits (outbits). Rows of texts, as cells. The reference's rows of bits: Row; the digits that Show tells are the reader's bits. The reference's packing of rows: Plain, Number, Pack; what is packed shows the row again. The reference's Pack; what is packed shows the row again. What is packed shows the row again. Contracts that hold over any tables: readers of bits. The reference's rows of bits: Show. The reference's rows of a table: begins, Take. The plain law of tables of rows: reading digit by digit. -/
import Derived.Test.YtbpednchkndocaaGreatDoorCx
import Derived.Test.YtbpednchkndocaaGreatDoorPc
set_option linter.unusedVariables false
set_option linter.unusedSimpArgs false
set_option maxRecDepth 100000
set_option maxHeartbeats 64000000
namespace Go.Proofs.YtbpednchkndocaaGreatDoor.Av
namespace Bt
open Go
attribute [local irreducible] aa ACalls
variable {gl:List (Nat×List D)}
abbrev I(n:Int):AV := .d (.int .i64 n)
abbrev B(b:Bool):AV := .d (.bool b)
abbrev S(s:List UInt8):AV := .d (.str s)
theorem Ls(s:List UInt8)(i:Nat):0≤bt s i∧bt s i≤255:=by
 have:=(s.getD i 0).toNat_lt;unfold bt;omega
theorem Df(s:List UInt8)(i n:Nat):0≤bt s i/2^n∧bt s i/2^n≤255:=by
 have:=Ls s i;have hp:(0:Int)<2^n:=Int.pow_pos (by decide);exact⟨Int.ediv_nonneg this.1 (by omega),Int.le_trans (Int.ediv_le_self _ this.1) this.2⟩
def fq(s:List UInt8)(p:Int):Int:=bt s (p/8).toNat/2^(7-p%8).toNat%2
theorem oV(s:List UInt8)(p:Int):0≤fq s p∧fq s p≤1:=by
 unfold fq;omega
end Bt
namespace Bt
open Go
attribute [local irreducible] aa ACalls
variable {gl:List (Nat×List D)}
theorem w9{n:Nat}(h:n≤32):(2:Int)^n≤4294967296:=by
 have:(2:Nat)^n≤2^32:=Nat.pow_le_pow_right (by omega) h;have h2:((2^n:Nat):Int)=(2:Int)^n:=by simp
 omega
theorem sN(n:Nat):(0:Int)<2^n:=Int.pow_pos (by decide)
theorem KD(v:Int)(n:Nat)(hn:n≤32)(hv:0≤v∧v<2^n):ACalls (cxg gl) 158 [I v,I n] [] (fun r H=>r=B true∧H=[]):=by
 have h1:=w9 hn;have h2:=sN n;refine ACalls.en Tryz.func158 Tryz.ntmps158 ?_;repeat' (first|refine aa.aF ?_|(apply aa.q true;rfl;rfl;rfl;rfl;first|exact True.intro|omega|(simp only[tn,Int.reduceToNat];omega)|(simp only[Int.toNat_natCast];omega))|refine aa.au ?_|refine aa.cf ?_|intro _|refine aa.aA ?_)
 refine⟨?_,rfl⟩;rw[Int.toNat_natCast,Int.one_mul,decide_eq_true hv.2];rfl
def dg(v:Int):UInt8:=UInt8.ofNat (48+(v%2).toNat)
theorem Qx(x:Int)(h:0≤x):(48+(((x.toNat &&& Int.toNat 1:Nat):Int)%256))%256=((dg x).toNat:Int):=by
 have e:Int.toNat 1=1:=rfl;rw[e,Nat.and_one_is_mod];have hm:x%2=0∨x%2=1:=by omega
 have hn:x.toNat%2=(x%2).toNat:=by omega
 unfold dg;rw[hn];rcases hm with h|h<;>rw[h]<;>rfl
def bU(v:Int)(n k:Nat):List UInt8:=(List.range k).map fun j=>dg (v/2^(n-1-j))
theorem qQ(v:Int)(n k:Nat):bU v n (k+1)=bU v n k++[dg (v/2^(n-1-k))]:=by
 simp[bU,List.range_succ]
theorem bV(v:Int)(n k:Nat):(bU v n k).length=k:=by simp[bU]
attribute [local irreducible] dg bU
theorem Aj(v:Int)(n:Nat)(hn:n≤32)(hv:0≤v∧v<2^n):ACalls (cxg gl) 213 [I v,I n] [] (fun r H=>r = .cH [S (bU v n n),I 0]∧H=[]):=by
 have p1:=w9 hn;refine ACalls.en Tryz.func213 Tryz.ntmps213 ?_;repeat (first|refine aa.aF ?_|(apply aa.FT;(iterate 9 rfl);(first|decide|(dsimp only;omega));simp only[Int.reduceToNat,List.replicate_zero,List.length_nil,List.length_cons,Nat.reduceAdd,List.nil_append,List.cons_append])|(apply aa.append;(iterate 11 rfl);(first|rfl|(simp only[List.length_append,List.length_map,List.length_cons,List.length_nil];omega));((simp only[List.length_append,List.length_map,List.length_cons,List.length_nil];omega));simp only[List.set_cons_zero,List.set_cons_succ])|refine aa.DK ?_|refine aa.bh true ?_|refine aa.av (KD v n hn hv) ?_|refine aa.ah ?_|refine aa.ae ?_|refine aa.ak ?_|refine aa.aX ?_)
 have e0:bU v n 0=[]:=by unfold bU;rfl
 refine aa.weak (env':=[(7,I ((n:Int)-1)),(6, .own 1 [] 0),(0,I v)]) ⟨rfl,rfl,rfl,trivial⟩ ?_;refine aa.loop (fun m env H=>∃k:Nat,m=n-k∧k≤n∧env=[(7,I ((n:Int)-1-k)),(6, .own 1 (bI (bU v n k)) 0),(0,I v)]∧H=[.front 5 1 (bI (bU v n k)).length]) n
  ⟨0,by simp,Nat.zero_le _,by rw[e0];simp[bI],by rw[e0];simp[bI]⟩ ?_
 rintro m env H ⟨k,rfl,hk,rfl,rfl⟩;have hl:=bV v n k;have q0:∀j:Nat,0≤v/2^j∧v/2^j≤9223372036854775807:=fun j=>by
  have h2:=sN j;exact⟨Int.ediv_nonneg hv.1 (by omega),Int.le_trans (Int.ediv_le_self _ hv.1) (by omega)⟩
 rcases Nat.lt_or_ge k n with hlt|hge
 ·repeat (first|refine aa.aF ?_|(apply aa.FT;(iterate 9 rfl);(first|decide|(dsimp only;omega)|(exact⟨q0 _,by decide⟩)|(simp only[IntKind.bits];omega)|(simp only[jB,hl,List.length_cons,List.length_nil];omega));simp only[Int.reduceToNat,List.replicate_zero,List.length_nil,List.length_cons,Nat.reduceAdd,List.nil_append,List.cons_append])|(apply aa.append;(iterate 11 rfl);(first|rfl|(simp only[List.length_append,List.length_map,List.length_cons,List.length_nil];omega));(first|(simp only[List.length_append,List.length_map,List.length_cons,List.length_nil];omega)|(exact⟨q0 _,by decide⟩)|(simp only[IntKind.bits];omega)|(simp only[jB,hl,List.length_cons,List.length_nil];omega));simp only[List.set_cons_zero,List.set_cons_succ])|refine aa.DK ?_|(apply aa.q true;rfl;rfl;rfl;rfl;first|exact True.intro|omega|(simp only[tn,Int.reduceToNat];omega)|(exact⟨q0 _,by decide⟩)|(simp only[IntKind.bits];omega)|(simp only[jB,hl,List.length_cons,List.length_nil];omega))|refine aa.ah ?_|refine aa.ae ?_|refine aa.ak ?_|refine aa.aX ?_)
  have ej:((n:Int)-1-k).toNat=n-1-k:=by omega
  have ed:=Qx (v/2^(n-1-k)) (q0 _).1;refine aa.done ⟨[(7,I ((n:Int)-1-((k+1:Nat):Int))),(6, .own 1 (bI (bU v n (k+1))) 0),(0,I v)],n-(k+1),by omega,⟨?_,?_,rfl,trivial⟩,k+1,rfl,hlt,rfl,?_⟩
  ·exact congrArg I (by omega)
  ·show AV.own 1 _ 0=AV.own 1 _ 0;rw[qQ,lg,ej,ed];rfl
  ·rw[qQ,lg,ej,ed];rfl
 ·repeat (first|refine aa.aF ?_|refine aa.bh true ?_|refine aa.ah ?_|refine aa.ae ?_|refine aa.ak ?_|refine aa.aX ?_)
  refine aa.out rfl ⟨_,rfl,?_⟩;repeat (first|refine aa.aF ?_|(apply aa.FT;(iterate 9 rfl);(first|decide|(dsimp only;omega));simp only[Int.reduceToNat,List.replicate_zero,List.length_nil,List.length_cons,Nat.reduceAdd,List.nil_append,List.cons_append])|(apply aa.append;(iterate 11 rfl);(first|rfl|(simp only[List.length_append,List.length_map,List.length_cons,List.length_nil];omega));((simp only[List.length_append,List.length_map,List.length_cons,List.length_nil];omega));simp only[List.set_cons_zero,List.set_cons_succ])|refine aa.DK ?_|refine aa.bh true ?_|refine aa.ah ?_|refine aa.ae ?_|refine aa.ak ?_|refine aa.aX ?_)
  (apply aa.Jm;rfl;rfl;rfl;rfl)
  obtain rfl:k=n:=by omega
  exact⟨rfl,rfl⟩
theorem Ai(v n:Int)(hn:0≤n∧n≤32)(hv:0≤v∧v<2^n.toNat):ACalls (cxg gl) 213 [I v,I n] [] (fun r H=>r = .cH [S (bU v n.toNat n.toNat),I 0]∧H=[]):=by
 have:=Aj (gl:=gl) v n.toNat (by omega) hv
 rwa [Int.toNat_of_nonneg hn.1]at this
end Bt
namespace Bt
open Go
def kr(rows:List (List UInt8)):List D:=rows.map .str
theorem G5(rows:List (List UInt8))(i:Nat)(h:i<rows.length):((kr rows).getD i .top).cells[0]?=some (.str (rows.getD i [])):=by
 simp[kr,List.getD,h,D.cells]
theorem G3(rows:List (List UInt8)):(kr rows).length=rows.length:=by simp[kr]
theorem tX{α:Type}(l:List α)(i:Nat)(x:α)(h:l[i]?=some x):l.drop i=x::l.drop (i+1):=by
 have hl:=aI h;rw[List.drop_eq_getElem_cons hl];congr 1;simpa[hl]using h
end Bt
namespace Bt
open Go
attribute [local irreducible] aa ACalls
variable {gl:List (Nat×List D)}
def cn(x:Int):UInt8:=UInt8.ofNat (48+x.toNat)
theorem Gl(v:Int):dg v=cn (v%2):=rfl
theorem KW(v:Int)(n k j:Nat)(hj:j<k):(bU v n k)[j]?=some (dg (v/2^(n-1-j))):=by
 simp[bU,hj]
attribute [local irreducible] dg bU
def jw(s:List UInt8):List UInt8:=s.flatMap fun b=>bU (b.toNat:Int) 8 8
theorem nL(s:List UInt8):(jw s).length=8*s.length:=by
 induction s with
 |nil=>rfl
 |cons b s ih=>simp only[jw,List.flatMap_cons,List.length_append,bV,List.length_cons]at ih ⊢;omega
theorem Oo(a:UInt8)(l:List UInt8)(i:Nat):bt (a::l) (i+1)=bt l i:=by simp[bt]
theorem qF(s:List UInt8):∀(i j:Nat),i<s.length→j<8→(jw s)[8*i+j]?=(bU (bt s i) 8 8)[j]?:=by
 induction s with
 |nil=>intro i j h;simp at h
 | cons b s ih =>
  intro i j hi hj;have e:jw (b::s)=bU (b.toNat:Int) 8 8++jw s:=by simp[jw]
  rw[e];cases i with
  |zero=>rw[List.getElem?_append_left (by rw[bV];omega)];simp[bt]
  |succ i =>
   rw[List.getElem?_append_right (by rw[bV];omega),bV,show 8*(i+1)+j-8=8*i+j by omega,ih i j (by simpa using hi) hj,Oo]
attribute [local irreducible] jw
theorem GY(s:List UInt8)(p:Int)(h0:0≤p)(h1:p<8*(s.length:Int)):(jw s)[p.toNat]?=some (cn (fq s p)):=by
 have e:p.toNat=8*(p/8).toNat+(p%8).toNat:=by omega
 rw[e,qF s _ _ (by omega) (by omega),KW _ _ _ _ (by omega),Gl];unfold fq;have:8-1-(p%8).toNat=(7-p%8).toNat:=by omega
 rw[this]
def aG(s:List UInt8)(p:Nat):List Int:=(List.range (8*s.length-p)).map fun j=>fq s ((p+j:Nat):Int)
theorem lX(s:List UInt8)(p:Nat)(h:8*s.length≤p):aG s p=[]:=by
 unfold aG;rw[show 8*s.length-p=0 by omega];rfl
theorem jd(s:List UInt8)(p:Nat)(h:p<8*s.length):aG s p=fq s p::aG s (p+1):=by
 unfold aG;rw[show 8*s.length-p=(8*s.length-(p+1))+1 by omega,List.range_succ_eq_map,List.map_cons,List.map_map];congr 1;apply List.map_congr_left;intro j _;simp only[Function.comp];congr 2;omega
theorem dN(s:List UInt8)(p:Nat):(aG s p).length=8*s.length-p:=by simp[aG]
theorem wS(s:List UInt8)(p:Nat):(jw s).drop p=(aG s p).map cn:=by
 apply List.ext_getElem?;intro j;rw[List.getElem?_drop,List.getElem?_map];by_cases h:p+j<8*s.length
 ·have:=GY s ((p+j:Nat):Int) (by omega) (by omega);rw[Int.toNat_natCast]at this;rw[this];simp[aG,show j<8*s.length-p by omega]
 ·rw[List.getElem?_eq_none (by rw[nL];omega),List.getElem?_eq_none (by rw[dN];omega)];rfl
theorem fJ(s:List UInt8)(p:Nat):∀b∈aG s p,b=0∨b=1:=by
 intro b hb;obtain⟨j,_,rfl⟩:=List.mem_map.1 hb;have:=oV s ((p+j:Nat):Int);omega
end Bt
namespace Bt
open Go
attribute [local irreducible] aa ACalls
variable {gl:List (Nat×List D)}
def bB(c:UInt8):Bool:=decide (c=48)||decide (c=49)
theorem xO(s:List UInt8)(i:Nat)(c:UInt8)(h:s[i]?=some c):bt s i=(c.toNat:Int):=by simp[bt,List.getD,h]
theorem sj{c:UInt8}{n:Nat}(hn:n<256):((c.toNat:Int)=(n:Int))↔c=UInt8.ofNat n:=by
 constructor
 ·intro h;have h':c.toNat=n:=by omega
  rw[←h'];simp
 ·rintro rfl;simp;omega
theorem lD{c:UInt8}(h:bB c=true):c=48∨c=49:=by simpa[bB]using h
def iT(w:List UInt8):Int:=w.foldl (fun n c=>2*n+((c.toNat:Int)-48)) 0
theorem lV(w:List UInt8)(c:UInt8):iT (w++[c])=2*iT w+((c.toNat:Int)-48):=by simp[iT]
theorem nK{α:Type}{P:List α→Prop}(h0:P [])(h1:∀l x,P l→P (l++[x])):∀l,P l:=by
 intro l;rw[←List.reverse_reverse l]
 induction l.reverse with
 |nil=>exact h0
 |cons x r ih=>rw[List.reverse_cons];exact h1 _ _ ih
theorem FH(w:List UInt8):w.all bB=true→0≤iT w∧iT w<2^w.length:=by
 refine nK (P:=fun w=>w.all bB=true→0≤iT w∧iT w<2^w.length) (fun _=>by simp[iT]) (fun w c ih h=>?_) w;rw[List.all_append,Bool.and_eq_true]at h;obtain⟨i1,i2⟩:=ih h.1;have hc:c=48∨c=49:=lD (by simpa using h.2);rw[lV,List.length_append,List.length_singleton,Int.pow_succ];rcases hc with rfl|rfl
 ·have e:(((48:UInt8).toNat:Nat):Int)=48:=rfl;rw[e];omega
 ·have e:(((49:UInt8).toNat:Nat):Int)=49:=rfl;rw[e];omega
end Bt
namespace Bt
open Go
attribute [local irreducible] aa ACalls
variable {gl:List (Nat×List D)}
def bE(n:Nat):Nat:=(8-n%8)%8
def dC(w:List UInt8):List UInt8:=w++List.replicate (bE w.length) 48
theorem jK(n:Nat):(n+bE n)%8=0∧bE n<8:=by unfold bE;omega
def sQ(L:List UInt8)(j:Nat):List UInt8:=(List.range j).map fun t=>UInt8.ofNat (iT ((L.drop (8*t)).take 8)).toNat
theorem yK(L:List UInt8)(j:Nat):(sQ L j).length=j:=by simp[sQ]
def bJ(w:List UInt8):List UInt8:=sQ (dC w) ((dC w).length/8)
theorem sP(w:List UInt8)(h:w.all bB=true):(dC w).all bB=true:=by
 unfold dC;rw[List.all_append,h,Bool.true_and,List.all_eq_true];intro x hx;rw[List.eq_of_mem_replicate hx];rfl
theorem mq(w:List UInt8):(dC w).length=w.length+bE w.length:=by simp[dC]
attribute [local irreducible] sQ iT
end Bt
namespace Bt
open Go
theorem zr(v:Int)(n:Nat):bU v (n+1) (n+1)=bU (v/2) n n++[dg v]:=by
 rw[qQ];congr 1
 ·unfold bU;apply List.map_congr_left;intro j hj;have hj':j<n:=by simpa using hj
  have e:n+1-1-j=(n-1-j)+1:=by omega
  rw[e,Int.ediv_ediv_of_nonneg (by decide),Int.pow_succ,Int.mul_comm (2^(n-1-j))]
 ·simp
theorem C0(w:List UInt8):w.all bB=true→bU (iT w) w.length w.length=w:=by
 refine nK (P:=fun w=>w.all bB=true→bU (iT w) w.length w.length=w) (fun _=>rfl) (fun w c ih h=>?_) w;rw[List.all_append,Bool.and_eq_true]at h;have hc:c=48∨c=49:=lD (by simpa using h.2);rw[List.length_append,List.length_singleton,zr,lV];have e1:(2*iT w+((c.toNat:Int)-48))/2=iT w:=by
  rcases hc with rfl|rfl
  ·have e:(((48:UInt8).toNat:Nat):Int)=48:=rfl;rw[e];omega
  ·have e:(((49:UInt8).toNat:Nat):Int)=49:=rfl;rw[e];omega
 have e2:dg (2*iT w+((c.toNat:Int)-48))=c:=by
  unfold dg;rcases hc with rfl|rfl
  ·have e:(((48:UInt8).toNat:Nat):Int)=48:=rfl;rw[e,show (2*iT w+(48-48))%2=0 by omega];rfl
  ·have e:(((49:UInt8).toNat:Nat):Int)=49:=rfl;rw[e,show (2*iT w+(49-48))%2=1 by omega];rfl
 rw[e1,e2,ih h.1]
theorem Hf(L:List UInt8)(q i:Nat)(h:i<q):bt (sQ L q) i=((UInt8.ofNat (iT ((L.drop (8*i)).take 8)).toNat).toNat:Int):=xO _ _ _ (by simp[sQ,h])
theorem wR(w:List UInt8)(h:w.all bB=true):jw (bJ w)=dC w:=by
 obtain⟨p1,_⟩:=jK w.length;have hl:=mq w;have hd:=sP w h;unfold bJ;generalize dC w=L at *;generalize hq:L.length/8=q;have hlen:L.length=8*q:=by omega
 apply List.ext_getElem?;intro p;by_cases hp:p<8*q
 ·have e:p=8*(p/8)+p%8:=by omega
  have hcl:((L.drop (8*(p/8))).take 8).length=8:=by rw[List.length_take,List.length_drop];omega
  have hcd:((L.drop (8*(p/8))).take 8).all bB=true:=by
   rw[List.all_eq_true]at hd ⊢;exact fun x hx=>hd x (List.mem_of_mem_drop (List.mem_of_mem_take hx))
  obtain⟨n1,n2⟩:=FH _ hcd;rw[hcl]at n2;have hdn:=C0 _ hcd;rw[hcl]at hdn;have hb:bt (sQ L q) (p/8)=iT ((L.drop (8*(p/8))).take 8):=by
   rw[Hf L q _ (by omega)];have:∀m:Nat,(UInt8.ofNat m).toNat=m%256:=fun m=>by simp
   rw[this];omega
  have h1:=qF (sQ L q) (p/8) (p%8) (by rw[yK];omega) (by omega);rw[hb,hdn,←e,List.getElem?_take,List.getElem?_drop,if_pos (by omega)]at h1;rw[h1];congr 1;omega
 ·rw[List.getElem?_eq_none (by rw[nL,yK];omega),List.getElem?_eq_none (by omega)]
def und(c:UInt8):Int:=(c.toNat:Int)-48
theorem BC(b:Int)(h:b=0∨b=1):und (cn b)=b:=by rcases h with rfl|rfl<;>rfl
theorem EI(w:List UInt8)(h:w.all bB=true):aG (bJ w) 0=(dC w).map und:=by
 have h1:=wS (bJ w) 0;rw[List.drop_zero,wR w h]at h1;rw[h1,List.map_map];have:∀b∈aG (bJ w) 0,(und ∘ cn) b=b:=fun b hb=>BC b (fJ _ _ b hb)
 rw[List.map_congr_left this,List.map_id']
end Bt
namespace Bt
open Go
attribute [local irreducible] aa ACalls
variable {gl:List (Nat×List D)}
abbrev Rd(s:List UInt8)(at':Int):aN := .cells [S s,I at']
abbrev Ia(x:Int×Int):AV := .cH [I x.1,I x.2]
theorem Cv(s:List UInt8):ACalls (cxg gl) 12 [S s] [] (fun r H=>r = .ptr 0 0∧H=[Rd s 0]):=by
 refine ACalls.en Tryz.func12 Tryz.ntmps12 ?_;repeat (first|refine aa.aF ?_|refine aa.bh true ?_|refine aa.aM ?_|refine aa.bG ?_)
 (apply aa.BN 1;rfl;rfl;rfl;rfl;rfl)
 exact⟨rfl,rfl⟩
def pk1(s:List UInt8)(p:Int):Int×Int:=if 8*(s.length:Int)-p<1 then (0,2) else (fq s p,0)
def tk1(s:List UInt8)(p:Int):Int:=if 8*(s.length:Int)-p<1 then p else p+1
theorem FC(s:List UInt8)(p:Int)(h0:0≤p)(hs:s.length<1000000000000000)(h1:p≤8*(s.length:Int)):ACalls (cxg gl) 198 [.ptr 0 0,I 1] [Rd s p] (fun r H=>r=Ia (pk1 s p)∧H=[Rd s p]):=by
 refine ACalls.en Tryz.func198 Tryz.ntmps198 ?_;by_cases hp:8*(s.length:Int)-p<1
 ·repeat' (first|refine aa.aF ?_|refine aa.bh true ?_|refine aa.eP true ?_|refine aa.aV ?_|refine aa.bC ?_|refine aa.ah ?_|refine aa.ae ?_|refine aa.ak ?_|apply aa.di|apply aa.lpU|intro _|refine aa.aA ?_)
  refine⟨?_,rfl⟩;simp[pk1,hp]
 ·repeat' (first|refine aa.aF ?_|((first|apply aa.q true|apply aa.qq true);rfl;rfl;rfl;rfl;first|exact True.intro|omega|(simp only[tn,Int.reduceToNat];omega)|(exact⟨Df _ _ _,by decide⟩)|(simp only[Int.zero_mul,Int.toNat_zero,Nat.zero_or,Int.toNat_natCast,Int.reduceToNat,Nat.and_one_is_mod];omega))|refine aa.aV ?_|refine aa.bC ?_|refine aa.ah ?_|refine aa.ae ?_|refine aa.ak ?_|apply aa.di|apply aa.lpU|intro _|refine aa.aA ?_)
  refine⟨?_,rfl⟩;have b1:=Df s (p/8).toNat (7-p%8).toNat;simp only[pk1,if_neg hp,Int.zero_add,Int.add_zero,Int.zero_mul,Int.toNat_zero,Nat.zero_or,Int.toNat_natCast,Int.reduceToNat,Nat.and_one_is_mod,fq]
  revert b1
  generalize bt s (p/8).toNat/2^(7-p%8).toNat=A;intro b1;congr 4;omega
theorem qB(s:List UInt8)(p:Int)(h0:0≤p)(hs:s.length<1000000000000000)(h1:p≤8*(s.length:Int)):ACalls (cxg gl) 186 [.ptr 0 0,I 1] [Rd s p] (fun r H=>r=Ia (pk1 s p)∧H=[Rd s (tk1 s p)]):=by
 refine ACalls.en Tryz.func186 Tryz.ntmps186 ?_;by_cases hp:8*(s.length:Int)-p<1
 ·have e:(pk1 s p).2=2:=by simp[pk1,hp]
  repeat' (first|refine aa.aF ?_|refine aa.bh true ?_|refine aa.aj [0] (FC s p h0 hs h1) ?_|refine aa.ah ?_|refine aa.ae ?_|refine aa.aD ?_|intro _|refine aa.aA ?_)
  refine⟨rfl,?_⟩;simp[tk1,hp]
 ·have e:(pk1 s p).2=0:=by simp[pk1,hp]
  repeat' (first|refine aa.aF ?_|refine aa.bh true ?_|refine aa.aj [0] (FC s p h0 hs h1) ?_|refine aa.ah ?_|refine aa.ae ?_|refine aa.aD ?_|intro _|refine aa.aA ?_)
  refine⟨rfl,?_⟩;simp[tk1,hp]
theorem ui(s:List UInt8)(p:Int):ACalls (cxg gl) 19 [.ptr 0 0] [Rd s p] (fun r H=>r=I p∧H=[Rd s p]):=by
 refine ACalls.en Tryz.func19 Tryz.ntmps19 ?_;repeat' (first|refine aa.aF ?_|refine aa.bh true ?_|refine aa.ak ?_|intro _|refine aa.aA ?_)
 exact⟨rfl,rfl⟩
theorem Pp(s:List UInt8)(p q:Int)(hs:s.length<1000000000000000):ACalls (cxg gl) 13 [.ptr 0 0,I q] [Rd s p] (fun r H=>r=I (if q<0∨8*(s.length:Int)<q then 1 else 0)∧H=[Rd s (if q<0∨8*(s.length:Int)<q then p else q)]):=by
 refine ACalls.en Tryz.func13 Tryz.ntmps13 ?_;by_cases hq:q<0∨8*(s.length:Int)<q
 ·rw[if_pos hq,if_pos hq];repeat' (first|refine aa.aF ?_|refine aa.bh true ?_|refine aa.ah ?_|refine aa.ae ?_|refine aa.aB ?_|refine aa.aD ?_|refine aa.au ?_|refine aa.bg ?_|refine aa.aC ?_|intro _|(apply aa.gD;rfl;rfl;rfl)|refine aa.aA ?_)
  all_goals first|omega|exact⟨rfl,rfl⟩
 ·rw[if_neg hq,if_neg hq];repeat' (first|refine aa.aF ?_|refine aa.bh true ?_|refine aa.ah ?_|refine aa.ae ?_|refine aa.aB ?_|refine aa.aD ?_|refine aa.au ?_|refine aa.bg ?_|refine aa.aC ?_|intro _|(apply aa.gD;rfl;rfl;rfl)|refine aa.aA ?_)
  all_goals first|omega|exact⟨rfl,rfl⟩
theorem gI(s:List UInt8)(p q:Int)(hs:s.length<1000000000000000)(h:0≤q∧q≤8*(s.length:Int)):ACalls (cxg gl) 13 [.ptr 0 0,I q] [Rd s p] (fun r H=>r=I 0∧H=[Rd s q]):=by
 have:=Pp (gl:=gl) s p q hs
 rwa [if_neg (by omega),if_neg (by omega)]at this
end Bt
namespace Bt
open Go
attribute [local irreducible] aa ACalls
variable {gl:List (Nat×List D)}
attribute [local irreducible] jw
end Bt
namespace Bt
open Go
attribute [local irreducible] aa ACalls
variable {gl:List (Nat×List D)}
def lG(w:List UInt8):List (List UInt8)→Nat→Option Nat
 |[],_=>none
 |r::rs,i=>if r=w then some i else lG w rs (i+1)
attribute [local irreducible] kr
end Bt
namespace Bt
open Go
inductive RR where
 |done (i:Nat) (c:Nat)|fail|next (w:List UInt8)
def jo(rows:List (List UInt8))(w:List UInt8)(x:UInt8):RR :=
 match lG (w++[x]) rows 0 with
 |some i => .done i (w.length+1)
 |none=>if rows.any (fun r=>(w++[x]).isPrefixOf r) then .next (w++[x]) else .fail
def dB(rows:List (List UInt8)):List UInt8→List UInt8→Int×Int×Nat
 |[],_=>(0,2,0)
 |x::r,w=>match jo rows w x with
  | .done i c=>((i:Int),0,c)
  | .fail=>(0,3,0)
  | .next w'=>dB rows r w'
end Bt
end Go.Proofs.YtbpednchkndocaaGreatDoor.Av
