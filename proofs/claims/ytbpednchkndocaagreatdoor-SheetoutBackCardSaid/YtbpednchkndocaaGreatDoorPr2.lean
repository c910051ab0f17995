/- The parts of cells, there and back. Cells, there and back. Cells, there and back: whole cells. -/
import Derived.Test.YtbpednchkndocaaGreatDoorPr1
import Derived.Test.YtbpednchkndocaaGreatDoorPq5
import Derived.Test.YtbpednchkndocaaGreatDoorCo6
set_option linter.unusedVariables false
set_option linter.unusedSimpArgs false
set_option maxRecDepth 100000
set_option maxHeartbeats 64000000
namespace Go.Proofs.YtbpednchkndocaaGreatDoor.Av
namespace Rn
open Go Bt Tc Bl Co Ci Mb
theorem S9:∀b:Bool,∀i:_root_.Fin 21,i.val<(lq b).length→lu b (((i.val:Int)+(if b=true then 0 else 12))/4) (((i.val:Int)+(if b=true then 0 else 12))%4)=true ∧
  eD b (((i.val:Int)+(if b=true then 0 else 12))/4) (((i.val:Int)+(if b=true then 0 else 12))%4)=(lq b).getD i.val []:=by
 intro b;rw[CE];cases b<;>decide +kernel
theorem Nf(b:Bool)(B:List Int)(hB:∀x∈B,x=0∨x=1)(h:(mbN b B).2.2.1=0):
  lu b (mbN b B).1 (mbN b B).2.1=true∧(mbN b B).1≠2∧(mbN b B).2.2.2≤B.length∧(B.take (mbN b B).2.2.2).map cn=eD b (mbN b B).1 (mbN b B).2.1:=by
 have hle:=El b B;have ha:=sI (lq b) (B.map cn) [];have hl:=xj b;unfold mbN mbX at h hle ⊢;generalize dB (lq b) (B.map cn) []=y at *;obtain⟨i,e,c⟩:=y;simp only at h ha hle ⊢;by_cases he:e=0
 ·rw[if_pos he]at h hle ⊢;obtain⟨_,n,hn,hrow⟩:=ha he;subst hn;simp only[List.length_nil,Nat.sub_zero,List.nil_append]at hrow;rw[←List.map_take]at hrow;have hn:=aI hrow;have hk:=S9 b ⟨n,by rw[hl]at hn;split at hn<;>omega⟩ hn;simp only at hk;by_cases h2:((n:Int)+(if b=true then 0 else 12))/4=2
  ·rw[if_pos h2]at h;cases h
  ·rw[if_neg h2]at hle ⊢;refine⟨hk.1,h2,hle,?_⟩;rw[hk.2,List.getD_eq_getElem?_getD,hrow,Option.getD_some]
 ·rw[if_neg he]at h;exact absurd h he
theorem FP(b:Bool)(k c:Int)(h:lu b k c=true)(h2:k≠2)(R:List Int):mbN b ((eD b k c).map und++R)=(k,c,0,(eD b k c).length):=by
 unfold mbN;rw[List.map_append,vT _ (p9 b k c h).2.2,Ng b k c h,if_neg h2]
theorem Oe(b:Bool)(B:List Int)(hB:∀x∈B,x=0∨x=1)(h:(cbN b B).2.1=0):
  (0≤(cbN b B).1∧(cbN b B).1≤15)∧(cbN b B).2.2≤B.length∧(B.take (cbN b B).2.2).map cn=Cb.iO b (cbN b B).1:=by
 have hle:=EH b B;have ha:=sI Cb.cbR (B.map cn) [];have hl:Cb.cbR.length=16:=rfl;unfold cbN Cb.cbX at h hle ⊢;generalize dB Cb.cbR (B.map cn) []=y at *;obtain⟨i,e,c⟩:=y;simp only at h ha hle ⊢;subst h;simp only[if_true]at hle ⊢;obtain⟨_,n,hn,hrow⟩:=ha rfl;subst hn;simp only[List.length_nil,Nat.sub_zero,List.nil_append]at hrow;rw[←List.map_take]at hrow;have hn:=aI hrow;have ht:=Cb.zP b (n:Int) (by omega);refine⟨ht,hle,?_⟩;rw[Cb.xM b _ ht,Cb.EY,Int.toNat_natCast,List.getD_eq_getElem?_getD,hrow,Option.getD_some]
theorem Og(b:Bool)(p:Int)(h:0≤p∧p≤15)(R:List Int):cbN b ((Cb.iO b p).map und++R)=(p,0,(Cb.iO b p).length):=by
 unfold cbN;rw[List.map_append,vT _ (Cb.xL b p h).2.2,Cb.Oh b b p h,Cb.EY];rfl
theorem FJ(B:List Int)(hB:∀x∈B,x=0∨x=1)(h:(mvN B).2.1=0):
  (-32≤(mvN B).1∧(mvN B).1≤31)∧(mvN B).2.2≤B.length∧(B.take (mvN B).2.2).map cn=Mv.iJ (mvN B).1:=by
 have hle:=Ap hB;have hs:=Ef hB;have ha:=sI Mv.lQ (B.map cn) [];unfold mvN at h hle ⊢;generalize Mv.mt B 0 1=x at *;generalize dB Mv.lQ (B.map cn) []=y at *;obtain⟨i,e,c⟩:=y;obtain⟨d,e',c'⟩:=x;obtain⟨a1,a2,a3⟩:=hs;simp only[Prod.mk.injEq]at a1;obtain⟨rfl,rfl⟩:=a1;simp only at h ha hle a2 ⊢;subst h;simp only[if_true]at hle ⊢;obtain⟨_,n,hn,hrow⟩:=ha rfl;have hd:=a2 rfl;subst hn;simp only[List.length_nil,Nat.sub_zero,List.nil_append]at hrow;rw[←List.map_take]at hrow;have hn:=aI hrow;rw[Mv.yS]at hn;rw[Mv.Hl n hn]at hrow;refine⟨by omega,hle,?_⟩;rw[hd];exact (Option.some.inj hrow).symm
theorem FK(d:Int)(h : -32≤d∧d≤31)(R:List Int):mvN ((Mv.iJ d).map und++R)=(d,0,(Mv.iJ d).length):=by
 have h1:=Mv.M7 ⟨(d+32).toNat,by omega⟩;simp only at h1;rw[show (((d+32).toNat:Nat):Int)-32=d by omega]at h1;have h2:=Mv.FM _ _ _ h1 R;rw[Mv.Aq]at h2;unfold mvN;rw[h2];rfl
theorem Mg(B:List Int)(hB:∀x∈B,x=0∨x=1)(h:(stN B).2.1=0):
  sD (stN B).1=true∧(stN B).2.2≤B.length∧(B.take (stN B).2.2).map cn=lN (stN B).1:=by
 unfold stN stX at h ⊢;by_cases h2:B.length<2
 ·rw[if_pos h2]at h;cases h
 ·rw[if_neg h2]
  match B,h2 with
  |x::y::r,_ =>
   have hx:=hB x (by simp);have hy:=hB y (by simp);simp only[List.take_succ_cons,List.take_zero];refine⟨?_,by simp,?_⟩
   ·rcases hx with rfl|rfl<;>rcases hy with rfl|rfl<;>rfl
   ·rcases hx with rfl|rfl<;>rcases hy with rfl|rfl<;>rfl
theorem Mh(n:Int)(h:sD n=true)(R:List Int):stN ((lN n).map und++R)=(n,0,(lN n).length):=by
 have h2:n = -1∨n = -2∨n=1∨n=2:=of_decide_eq_true h;unfold stN stX;rcases h2 with rfl|rfl|rfl|rfl;all_goals
  rw[if_neg (by rw[List.length_append,List.length_map];exact Nat.not_lt.2 (Nat.le_add_right 2 _))];rfl
theorem Gu(intra:Bool):∀(cs:List Bool) (B:List Int) (q:Nat),(∀x∈B,x=0∨x=1)→q≤B.length→(bdX intra cs B q).2.1=0 →
  cs=(bdX intra cs B q).1.map (fun x=>!x.2.isEmpty)∧(∀x∈(bdX intra cs B q).1,eB intra x.1 x.2=true)∧q≤(bdX intra cs B q).2.2∧(bdX intra cs B q).2.2≤B.length ∧
  (B.take (bdX intra cs B q).2.2).map cn=(B.take q).map cn++(bdX intra cs B q).1.flatMap fun x=>dI intra x.1 x.2
 |[],B,q,hB,hq,h=>⟨rfl,by simp[bdX],by simp[bdX],by simpa[bdX]using hq,by simp[bdX]⟩
 | c :: cs, B, q, hB, hq, h => by
  rw[bdX]at h ⊢;by_cases h0:(blX intra c (B.drop q)).2.2.1≠0
  ·rw[if_pos h0]at h;exact absurd h h0
  ·rw[if_neg h0]at h ⊢;obtain⟨o1,o2,o3,o4⟩:=Ot intra c (B.drop q) (fun b hb=>hB b (List.mem_of_mem_drop hb)) (by simpa using h0);rw[List.length_drop]at o2;generalize blX intra c (B.drop q)=x at *;obtain⟨i1,i2,i3,i4,i5⟩:=Gu intra cs B (q+x.2.2.2) hB (by omega) h;generalize bdX intra cs B (q+x.2.2.2)=y at *;simp only;refine⟨?_,?_,by omega,i4,?_⟩
   ·rw[List.map_cons,←i1,←o4]
   ·intro z hz;rcases List.mem_cons.1 hz with rfl|hz
    ·exact o1
    ·exact i2 z hz
   ·rw[i5,List.take_add,List.map_append,o3,List.flatMap_cons,List.append_assoc]
theorem Gv(intra:Bool):∀(L:List (Int×List Ev)) (W:List Int) (R:List Int),(∀x∈R,x=0∨x=1)→(∀x∈L,eB intra x.1 x.2=true) →
  bdX intra (L.map fun x=>!x.2.isEmpty) (W++((L.flatMap fun x=>dI intra x.1 x.2).map und++R)) W.length=(L,0,W.length+(L.flatMap fun x=>dI intra x.1 x.2).length)
 |[],W,R,_,_=>by simp[bdX]
 | x :: L, W, R, hR, h => by
  have hx:=h x (by simp);have hrows:∀L:List (Int×List Ev),(∀x∈L,eB intra x.1 x.2=true)→(L.flatMap fun x=>dI intra x.1 x.2).all bB=true:=fun L hL=>by
   rw[List.all_flatMap,List.all_eq_true];exact fun x hx=>(Dj intra x.1 x.2 (hL x hx)).1
  have hL:=fun y hy=>h y (List.mem_cons_of_mem x hy)
  have h01:∀b∈(L.flatMap fun x=>dI intra x.1 x.2).map und++R,b=0∨b=1:=fun b hb=>by
   rcases List.mem_append.1 hb with hb|hb
   ·exact DD _ (hrows L hL) b hb
   ·exact hR b hb
  have bb:=Ou intra x.1 x.2 ((L.flatMap fun x=>dI intra x.1 x.2).map und++R) h01 hx;have hB:((x::L).flatMap fun x=>dI intra x.1 x.2).map und++R=(dI intra x.1 x.2).map und++((L.flatMap fun x=>dI intra x.1 x.2).map und++R):=by
   rw[List.flatMap_cons,List.map_append,List.append_assoc]
  rw[List.map_cons,bdX,hB,List.drop_left,bb];simp only[ne_eq,not_true_eq_false,if_false];have hW:W++((dI intra x.1 x.2).map und++((L.flatMap fun x=>dI intra x.1 x.2).map und++R))=(W++(dI intra x.1 x.2).map und)++((L.flatMap fun x=>dI intra x.1 x.2).map und++R):=by rw[List.append_assoc]
  have hl:W.length+(dI intra x.1 x.2).length=(W++(dI intra x.1 x.2).map und).length:=by rw[List.length_append,List.length_map]
  rw[hW,hl,Gv intra L (W++(dI intra x.1 x.2).map und) R hR hL];rw[List.flatMap_cons,List.length_append,List.length_append,List.length_map,Nat.add_assoc]
end Rn
namespace Rn
open Go Bt Tc Bl Co Ci Mb
attribute [local irreducible] mbN cbN mvN stN bdX eD lu dI eB
theorem Hn:∀b:Bool,∀k:_root_.Fin 6,∀c:_root_.Fin 4,lu b k.val c.val=true→k.val≠5→k.val≠2→(aL k.val||(b&&decide ((k.val:Int)=0∨(k.val:Int)=1)))=true:=by
 unfold lu;decide +kernel
theorem PZ:∀b:Bool,∀c:_root_.Fin 4,lu b 5 c.val=true→c.val=0:=by unfold lu;decide +kernel
theorem zG(b:Bool):(again b).map und=if b=true then [0] else []:=by cases b<;>rfl
def fG(b:Bool)(h:HdR):List UInt8:=if h.skip=true then [49] else again b++eD b h.kind h.chr
structure SQ(b:Bool)(n:Int)(B:List Int)(h:HdR):Prop where
 lo:n≤h.stuff
 hi:h.stuff≤64
 le:h.used≤B.length
 sk:h.skip=true→b=true
 ki:h.skip=false→lu b h.kind h.chr=true∧h.kind≠5∧h.kind≠2
 row:(B.take h.used).map cn=(List.replicate (h.stuff-n).toNat (cA b)).flatten++fG b h
theorem vW(b:Bool):∀(f:Nat) (n:Int) (B:List Int),n≤64→(∀x∈B,x=0∨x=1)→(hdX b f n B).err=0→SQ b n B (hdX b f n B)
 |0,n,B,_,_,h=>by simp[hdX]at h
 | f + 1, n, B, hn, hB, h => by
  have key:∀k:Nat,k≤B.length→(B.take k).map cn=again b→(hdK n k (mbN b (B.drop k)) (hdX b f (n+1) (B.drop (k+(mbN b (B.drop k)).2.2.2)))).err=0 →
    SQ b n B (hdK n k (mbN b (B.drop k)) (hdX b f (n+1) (B.drop (k+(mbN b (B.drop k)).2.2.2)))):=by
   intro k hk ha h;have mo:=Nf b (B.drop k) (fun x hx=>hB x (List.mem_of_mem_drop hx));unfold hdK at h ⊢;by_cases h0:(mbN b (B.drop k)).2.2.1≠0
   ·rw[if_pos h0]at h;exact absurd h h0
   ·rw[if_neg h0]at h ⊢;obtain⟨m1,m2,m3,m4⟩:=mo (by simpa using h0);rw[List.length_drop]at m3;by_cases h5:(mbN b (B.drop k)).1≠5
    ·rw[if_pos h5];refine⟨by simp only;omega,hn,by simp only;omega,fun h=>(by cases h),fun _=>⟨m1,h5,m2⟩,?_⟩;unfold fG;simp only[Bool.false_eq_true,if_false];rw[show (n-n).toNat=0 by omega,List.replicate_zero,List.flatten_nil,List.nil_append,List.take_add,List.map_append,ha,m4]
    ·rw[if_neg h5]at h ⊢;have e5:(mbN b (B.drop k)).1=5:=by simpa using h5
     rw[e5]at m1 m4;have hc0:(mbN b (B.drop k)).2.1=0:=by
      obtain⟨_,c1,c2⟩:=tq b _ _ m1;have:=PZ b ⟨(mbN b (B.drop k)).2.1.toNat,by omega⟩;simp only at this;rw[show (((mbN b (B.drop k)).2.1.toNat:Nat):Int)=(mbN b (B.drop k)).2.1 by omega]at this;have:=this m1;omega
     rw[hc0]at m4;by_cases h64:n=64
     ·rw[if_pos h64]at h;cases h
     ·rw[if_neg h64]at h ⊢;have ih:=vW b f (n+1) (B.drop (k+(mbN b (B.drop k)).2.2.2)) (by omega) (fun x hx=>hB x (List.mem_of_mem_drop hx)) h;generalize (mbN b (B.drop k)).2.2.2=u at *;generalize hdX b f (n+1) (B.drop (k+u))=y at *;obtain⟨i1,i2,i3,i4,i5,i6⟩:=ih;rw[List.length_drop]at i3;refine⟨by simp only;omega,i2,by simp only;omega,i4,i5,?_⟩;simp only;rw[List.take_add,List.map_append,i6,List.take_add,List.map_append,ha,m4,show (y.stuff-n).toNat=(y.stuff-(n+1)).toNat+1 by omega,List.replicate_succ,List.flatten_cons];unfold cA;simp[List.append_assoc,fG]
  rw[hdX]at h ⊢;cases b with
  |false =>
   simp only[Bool.false_eq_true,if_false]at h ⊢;have:=key 0 (Nat.zero_le _) rfl;simp only[List.drop_zero,Nat.zero_add]at this;exact this h
  | true =>
   simp only[if_true]at h ⊢;by_cases h0:B=[]
   ·rw[if_pos h0]at h;cases h
   ·rw[if_neg h0]at h ⊢
    match B,h0 with
    | x :: r, _ =>
     have hx:=hB x (by simp);simp only[List.getD_cons_zero]at h ⊢;by_cases h1:x=1
     ·rw[if_pos h1];subst h1;refine⟨Int.le_refl _,hn,by simp,fun _=>rfl,fun h=>(by cases h),?_⟩;simp only;rw[show (n-n).toNat=0 by omega];rfl
     ·rw[if_neg h1]at h ⊢;have:x=0:=by omega
      subst this;exact key 1 (by simp) rfl h
theorem tK(b:Bool)(h:HdR)(R:List Int)(h64:h.stuff≤64)(he:h.err=0)(sk:h.skip=true→b=true∧h.kind=0∧h.chr=0)(ki:h.skip=false→lu b h.kind h.chr=true∧h.kind≠5∧h.kind≠2):
  ∀(m f:Nat) (n:Int),n+m=h.stuff→m<f→h.used=((List.replicate m (cA b)).flatten++fG b h).length →
  hdX b f n (((List.replicate m (cA b)).flatten++fG b h).map und++R)=h
 |m,0,n,_,hf,_=>by omega
 | 0, f + 1, n, hn, hf, hu => by
  obtain⟨st,skp,k,c,er,us⟩:=h;simp only at h64 he sk ki hn hu ⊢;subst he;obtain rfl:st=n:=by omega
  simp only[List.replicate_zero,List.flatten_nil,List.nil_append]at hu ⊢;unfold fG at hu ⊢;simp only at hu ⊢;cases skp with
  |true =>
   obtain⟨rfl,rfl,rfl⟩:=sk rfl;subst hu;rfl
  | false =>
   obtain⟨k1,k2,k3⟩:=ki rfl;simp only[Bool.false_eq_true,if_false]at hu ⊢;have mb:=FP b k c k1 k3 R;rw[List.map_append,zG,List.append_assoc,hdX];cases b with
   |false =>
    simp only[Bool.false_eq_true,if_false,List.nil_append]at mb ⊢;rw[mb];unfold hdK;simp only[ne_eq,not_true_eq_false,if_false];rw[if_pos k2,hu];simp[again]
   |true =>
    simp only[if_true]at mb ⊢;rw[if_neg (by simp),if_neg (by simp),show (([0]:List Int)++((eD true k c).map und++R)).drop 1=(eD true k c).map und++R from rfl,mb];unfold hdK;simp only[ne_eq,not_true_eq_false,if_false];rw[if_pos k2,hu];simp[again,Nat.add_comm]
 | m + 1, f + 1, n, hn, hf, hu => by
  have mb:=fun R'=>FP b 5 0 (tj b) (by decide) R'
  have hrow:((List.replicate (m+1) (cA b)).flatten++fG b h).map und++R=(again b).map und++((eD b 5 0).map und++((((List.replicate m (cA b)).flatten++fG b h).map und)++R)):=by
   rw[List.replicate_succ,List.flatten_cons];unfold cA;simp only[List.map_append,List.append_assoc]
  have hlen:((List.replicate (m+1) (cA b)).flatten++fG b h).length=(again b).length+(eD b 5 0).length+((List.replicate m (cA b)).flatten++fG b h).length:=by
   rw[List.replicate_succ,List.flatten_cons];unfold cA;simp only[List.length_append];omega
  rw[hlen]at hu;have ih:=tK b { h with used:=((List.replicate m (cA b)).flatten++fG b h).length } R h64 he sk ki m f (n+1) (by simp only;omega) (by omega) rfl;have hr2:fG b { h with used:=((List.replicate m (cA b)).flatten++fG b h).length }=fG b h:=rfl;rw[hr2]at ih;rw[hrow,zG,hdX];cases b with
  |false =>
   simp only[Bool.false_eq_true,if_false,List.nil_append]at mb ⊢;rw[mb];unfold hdK;simp only[ne_eq,not_true_eq_false,if_false];rw[if_neg (by omega),List.drop_left' (by rw[List.length_map]),ih];obtain⟨st,skp,k,c,er,us⟩:=h;have ha:(again false).length=0:=rfl;simp only[HdR.mk.injEq,true_and]at hu ⊢;omega
  |true =>
   simp only[if_true]at mb ⊢;have d1:(([0]:List Int)++((eD true 5 0).map und++((((List.replicate m (cA true)).flatten++fG true h).map und)++R))).drop 1=(eD true 5 0).map und++((((List.replicate m (cA true)).flatten++fG true h).map und)++R):=rfl;rw[if_neg (by simp),if_neg (by simp),d1,mb];unfold hdK;simp only[ne_eq,not_true_eq_false,if_false];rw[if_neg (by omega),←List.drop_drop,d1,List.drop_left' (by rw[List.length_map]),ih];obtain⟨st,skp,k,c,er,us⟩:=h;have ha:(again true).length=1:=rfl;simp only[HdR.mk.injEq,true_and]at hu ⊢;omega
def pq(k px py:Int)(pat step mx my:Int):List UInt8:=Cb.iO (aL k) pat++((if dw k=true then lN step else [])++((if aL k=true then [] else Mv.iJ (bH (mx-bH px)))++(if aL k=true then [] else Mv.iJ (bH (my-bH py)))))
theorem Ii(p d:Int)(h : -32≤d∧d≤31):bH (wr p d-bH p)=d:=by unfold wr bH;omega
theorem Q0(p d:Int):bH (wr p d)=wr p d:=by unfold wr bH;omega
theorem EQ(p m:Int)(h:bH m=m):wr p (bH (m-bH p))=m:=by unfold wr;unfold bH at *;omega
structure SN(k px py:Int)(B:List Int)(m:MdR):Prop where
 pat:0≤m.pat∧m.pat≤15
 st:if dw k=true then sD m.step=true else m.step=0
 mv:if aL k=true then m.mx=0∧m.my=0 else bH m.mx=m.mx∧bH m.my=m.my
 le:m.used≤B.length
 row:(B.take m.used).map cn=pq k px py m.pat m.step m.mx m.my
theorem CB(k px py:Int)(B:List Int)(pat step:Int)(q:Nat)(hB:∀x∈B,x=0∨x=1)(hq:q≤B.length)(hp:0≤pat∧pat≤15)(hs:if dw k=true then sD step=true else step=0)
  (hr:(B.take q).map cn=Cb.iO (aL k) pat++(if dw k=true then lN step else [])) (h:(mdM k px py B pat step q).err=0):SN k px py B (mdM k px py B pat step q):=by
 unfold mdM at h ⊢;cases hI:aL k with
 |true =>
  rw[hI]at hr h;simp only[if_true]at h ⊢;exact⟨hp,hs,by rw[hI];simp,hq,by unfold pq;rw[hI,hr];simp⟩
 | false =>
  rw[hI]at hr h;simp only[Bool.false_eq_true,if_false]at h ⊢;have m1:=FJ (B.drop q) (fun x hx=>hB x (List.mem_of_mem_drop hx));by_cases h0:(mvN (B.drop q)).2.1≠0
  ·rw[if_pos h0]at h;exact absurd h h0
  ·rw[if_neg h0]at h ⊢;obtain⟨a1,a2,a3⟩:=m1 (by simpa using h0);rw[List.length_drop]at a2;have m2:=FJ (B.drop (q+(mvN (B.drop q)).2.2)) (fun x hx=>hB x (List.mem_of_mem_drop hx));generalize mvN (B.drop q)=x at *;obtain⟨b1,b2,b3⟩:=m2 h;rw[List.length_drop]at b2;generalize mvN (B.drop (q+x.2.2))=y at *;refine⟨hp,hs,by rw[hI];simp[Q0],by simp only;omega,?_⟩;unfold pq;rw[hI];simp only[Bool.false_eq_true,if_false];rw[Ii px x.1 a1,Ii py y.1 b1,List.take_add,List.map_append,List.take_add,List.map_append,hr,a3,b3];simp[List.append_assoc]
theorem M8(k px py:Int)(B:List Int)(hB:∀x∈B,x=0∨x=1)(h:(mdX k px py B).err=0):SN k px py B (mdX k px py B):=by
 have c1:=Oe (aL k) B hB;unfold mdX at h ⊢;by_cases h0:(cbN (aL k) B).2.1≠0
 ·rw[if_pos h0]at h;exact absurd h h0
 ·rw[if_neg h0]at h ⊢;obtain⟨a1,a2,a3⟩:=c1 (by simpa using h0);generalize cbN (aL k) B=x at *;have s1:=Mg (B.drop x.2.2) (fun x hx=>hB x (List.mem_of_mem_drop hx));by_cases hS:dw k=true
  ·rw[if_pos hS]at h ⊢;by_cases h1:(stN (B.drop x.2.2)).2.1≠0
   ·rw[if_pos h1]at h;exact absurd h h1
   ·rw[if_neg h1]at h ⊢;obtain⟨b1,b2,b3⟩:=s1 (by simpa using h1);rw[List.length_drop]at b2;refine CB k px py B _ _ _ hB (by omega) a1 (by rw[if_pos hS];exact b1) ?_ h;rw[if_pos hS,List.take_add,List.map_append,a3,b3]
  ·rw[if_neg hS]at h ⊢;exact CB k px py B _ _ _ hB a2 a1 (by rw[if_neg hS]) (by rw[if_neg hS,a3,List.append_nil]) h
theorem M9(k px py pat step mx my:Int)(R:List Int)(hp:0≤pat∧pat≤15)(hs:if dw k=true then sD step=true else step=0)(hm:if aL k=true then mx=0∧my=0 else bH mx=mx∧bH my=my):
  mdX k px py ((pq k px py pat step mx my).map und++R)=⟨pat,step,mx,my,0,(pq k px py pat step mx my).length⟩:=by
 have hmv:∀(q:Nat) (W:List Int),W.length=q→mdM k px py (W++((((if aL k=true then [] else Mv.iJ (bH (mx-bH px)))++(if aL k=true then [] else Mv.iJ (bH (my-bH py)))).map und)++R)) pat step q =
   ⟨pat,step,mx,my,0,q+((if aL k=true then [] else Mv.iJ (bH (mx-bH px)))++(if aL k=true then [] else Mv.iJ (bH (my-bH py)))).length⟩:=by
  intro q W hW;subst hW;unfold mdM;cases hI:aL k with
  |true =>
   rw[hI]at hm;simp only[if_true]at hm ⊢;obtain⟨rfl,rfl⟩:=hm;simp
  | false =>
   rw[hI]at hm;simp only[Bool.false_eq_true,if_false]at hm ⊢;have b1:=iA (mx-bH px);have b2:=iA (my-bH py);have w1:=EQ px mx hm.1;have w2:=EQ py my hm.2;generalize bH (mx-bH px)=d at *;generalize bH (my-bH py)=e at *;rw[List.map_append,List.append_assoc,List.drop_left,FK d (by omega)];simp only[ne_eq,not_true_eq_false,if_false];have e2:(W++((Mv.iJ d).map und++((Mv.iJ e).map und++R))).drop (W.length+(Mv.iJ d).length)=(Mv.iJ e).map und++R:=by
    rw[←List.drop_drop,List.drop_left,List.drop_left' (by rw[List.length_map])]
   rw[e2,FK e (by omega),w1,w2,List.length_append,Nat.add_assoc]
 unfold mdX pq;rw[List.map_append,List.append_assoc,Og (aL k) pat hp];simp only[ne_eq,not_true_eq_false,if_false];by_cases hS:dw k=true
 ·rw[if_pos hS]at hs;simp only[if_pos hS];have ed:((Cb.iO (aL k) pat).map und++((lN step++((if aL k=true then [] else Mv.iJ (bH (mx-bH px)))++(if aL k=true then [] else Mv.iJ (bH (my-bH py))))).map und++R)).drop (Cb.iO (aL k) pat).length
    = (lN step).map und++(((((if aL k=true then [] else Mv.iJ (bH (mx-bH px)))++(if aL k=true then [] else Mv.iJ (bH (my-bH py)))).map und)++R)):=by
   rw[List.drop_left' (by rw[List.length_map]),List.map_append,List.append_assoc]
  rw[ed,Mh step hs];simp only[not_true_eq_false,if_false];have ea:(Cb.iO (aL k) pat).map und++((lN step++((if aL k=true then [] else Mv.iJ (bH (mx-bH px)))++(if aL k=true then [] else Mv.iJ (bH (my-bH py))))).map und++R)
    = ((Cb.iO (aL k) pat).map und++(lN step).map und)++((((if aL k=true then [] else Mv.iJ (bH (mx-bH px)))++(if aL k=true then [] else Mv.iJ (bH (my-bH py)))).map und)++R):=by
   rw[List.map_append,List.append_assoc,List.append_assoc]
  rw[ea,hmv _ _ (by rw[List.length_append,List.length_map,List.length_map])];congr 1;simp only[List.length_append];omega
 ·rw[if_neg hS]at hs;simp only[if_neg hS,List.nil_append];subst hs;rw[hmv _ _ (by rw[List.length_map])];congr 1;simp only[List.length_append]
end Rn
namespace Rn
open Go Bt Tc Bl Co Ci Mb
set_option maxHeartbeats 2000000
theorem uR{v:Int}{i:Nat}{l:List Ev}(h:cB v i=!l.isEmpty):v/2^(5-i)%2=kF l:=by
 unfold cB at h;unfold kF;rw[fS];cases l with
 |nil =>
  have h':¬v/2^(5-i)%2=1:=of_decide_eq_false h;rw[if_neg (by simp)];omega
 |cons x r =>
  have h':v/2^(5-i)%2=1:=of_decide_eq_true h;rw[if_pos (by simp only[List.length_cons];omega)];exact h'
theorem uF{v:Int}{i:Nat}{l:List Ev}(h:v/2^(5-i)%2=kF l):cB v i=!l.isEmpty:=by
 unfold cB;unfold kF at h;rw[fS]at h;cases l with
 |nil =>
  rw[if_neg (by simp)]at h;exact decide_eq_false (by omega)
 |cons x r =>
  rw[if_pos (by simp only[List.length_cons];omega)]at h;exact decide_eq_true h
theorem SH:∀v:_root_.Fin 64,32*((v.val:Int)/2^(5-0)%2)+16*((v.val:Int)/2^(5-1)%2)+8*((v.val:Int)/2^(5-2)%2)+4*((v.val:Int)/2^(5-3)%2)+2*((v.val:Int)/2^(5-4)%2)+(v.val:Int)/2^(5-5)%2=v.val:=by decide +kernel
theorem K4{v:Int}{c:Cel}(h:0≤v∧v<64)(hc:cds v=[!c.e0.isEmpty,!c.e1.isEmpty,!c.e2.isEmpty,!c.e3.isEmpty,!c.e4.isEmpty,!c.e5.isEmpty]):cN c=v:=by
 unfold cds at hc;simp only[List.cons.injEq,and_true]at hc;obtain⟨h0,h1,h2,h3,h4,h5⟩:=hc;have k0:=uR h0;have k1:=uR h1;have k2:=uR h2;have k3:=uR h3;have k4:=uR h4;have k5:=uR h5;unfold cN;rw[←k0,←k1,←k2,←k3,←k4,←k5];have:=SH ⟨v.toNat,by omega⟩;simp only at this
 rwa [show ((v.toNat:Nat):Int)=v by omega]at this
theorem JB(c:Cel):cds (cN c)=[!c.e0.isEmpty,!c.e1.isEmpty,!c.e2.isEmpty,!c.e3.isEmpty,!c.e4.isEmpty,!c.e5.isEmpty]:=by
 have b0:=iE c.e0;have b1:=iE c.e1;have b2:=iE c.e2;have b3:=iE c.e3;have b4:=iE c.e4;have b5:=iE c.e5;unfold cds;rw[uF (l:=c.e0) (by unfold cN;simp only[Nat.reduceSub];omega),uF (l:=c.e1) (by unfold cN;simp only[Nat.reduceSub];omega),uF (l:=c.e2) (by unfold cN;simp only[Nat.reduceSub];omega),
  uF (l:=c.e3) (by unfold cN;simp only[Nat.reduceSub];omega),uF (l:=c.e4) (by unfold cN;simp only[Nat.reduceSub];omega),uF (l:=c.e5) (by unfold cN;simp only[Nat.reduceSub];omega)]
def ry(c:Cel):List (Int×List Ev):=[(c.d0,c.e0),(c.d1,c.e1),(c.d2,c.e2),(c.d3,c.e3),(c.d4,c.e4),(c.d5,c.e5)]
theorem put_eq(b:Bool)(px py:Int)(c:Cel)(h:c.skip=false):putRow [] b px py c=bY b c++(pq c.kind px py (cN c/2^2) c.step c.mx c.my++(ry c).flatMap fun x=>dI (aL c.kind) x.1 x.2):=by
 unfold putRow pq ry stR mvR;rw[h,if_neg (by decide)];simp only[List.flatMap_cons,List.flatMap_nil,List.append_nil,List.nil_append,List.append_assoc]
theorem uJ{b:Bool}{dc:Int}{l:List Ev}(h:eB b dc l=true):qy l:=by
 obtain⟨h1,h2,_⟩:=uQ h;refine⟨by omega,fun e he=>?_⟩;have:=xC (h1 e he);unfold Br;omega
theorem LJ{c:Cel}(h:vC c=true)(hs:c.skip=true):c=⟨c.stuff,true,0,0,0,0,0,0,0,0,0,0,[],[],[],[],[],[]⟩:=by
 obtain⟨st,sk,ki,sp,mx,my,d0,d1,d2,d3,d4,d5,e0,e1,e2,e3,e4,e5⟩:=c;unfold vC Ct at h;simp only[Bool.and_eq_true,decide_eq_true_eq,fS,List.cons.injEq,and_true]at h;obtain⟨⟨⟨⟨⟨⟨⟨⟨⟨h1,h2⟩,h3,h4⟩,g0,g1,g2,g3,g4,g5⟩,f0⟩,f1⟩,f2⟩,f3⟩,f4⟩,f5⟩:=h;have nil:∀l:List Ev,(l.length:Int)=0→l=[]:=fun l hl=>List.length_eq_zero_iff.1 (by omega)
 simp only at hs;subst hs h1 h2 h3 h4 g0 g1 g2 g3 g4 g5;rw[nil e0 f0,nil e1 f1,nil e2 f2,nil e3 f3,nil e4 f4,nil e5 f5]
theorem Lb(b:Bool)(px py:Int)(B:List Int)(hB:∀x∈B,x=0∨x=1)(h:(jb b px py B).2.1=0):
  dK b (jb b px py B).1=true∧kG (jb b px py B).1∧(jb b px py B).2.2≤B.length∧(B.take (jb b px py B).2.2).map cn=putRow [] b px py (jb b px py B).1:=by
 have ho:=vW b 65 0 B (by decide) hB;unfold jb at h ⊢;generalize hdX b 65 0 B=H at *;unfold Dc at h ⊢;by_cases h0:H.err≠0
 ·rw[if_pos h0]at h;exact absurd h h0
 ·rw[if_neg h0]at h ⊢;obtain⟨k1,k2,k3,k4,k5,k6⟩:=ho (by simpa using h0);rw[Int.sub_zero]at k6;by_cases hs:H.skip=true
  ·rw[if_pos hs];have hb:=k4 hs;subst hb;have nil:qy []:=⟨by decide,by simp⟩;refine⟨?_,⟨by unfold I64;simp only;omega,by unfold I64;simp only;omega,by unfold I64;simp only;omega,nil,nil,nil,nil,nil,nil⟩,k3,?_⟩
   ·unfold dK;simp only;rw[if_neg (by omega)];rfl
   ·simp only;rw[k6];unfold putRow bY jJ fG;rw[hs];simp
  ·rw[if_neg hs]at h ⊢;have hsf:H.skip=false:=by simpa using hs
   obtain⟨m1,m2,m3⟩:=k5 hsf;have hB1:∀x∈B.drop H.used,x=0∨x=1:=fun x hx=>hB x (List.mem_of_mem_drop hx)
   have mo:=M8 H.kind px py (B.drop H.used) hB1;generalize hM:mdX H.kind px py (B.drop H.used)=M at *;by_cases h1:M.err≠0
   ·rw[if_pos h1]at h;exact absurd h h1
   ·rw[if_neg h1]at h ⊢;obtain⟨p1,p2,p3,p4,p5⟩:=mo (by simpa using h1);have bo:=Gu (aL H.kind) (cds (4*M.pat+H.chr)) (B.drop H.used) M.used hB1 p4;generalize hY:bdX (aL H.kind) (cds (4*M.pat+H.chr)) (B.drop H.used) M.used=Y at *;by_cases h2:Y.2.1≠0
    ·rw[if_pos h2]at h;exact absurd h h2
    ·rw[if_neg h2]at h ⊢;obtain⟨q1,q2,q3,q4,q5⟩:=bo (by simpa using h2);obtain⟨L,er,q'⟩:=Y;simp only at q1 q2 q3 q4 q5 ⊢;obtain⟨_,hc⟩:=tq b _ _ m1;have hv:0≤4*M.pat+H.chr∧4*M.pat+H.chr<64:=by omega
     have hlen:L.length=6:=by
      have:=congrArg List.length q1;rw[List.length_map]at this;rw[←this];rfl
     match L,hlen with
     | [b0, b1, b2, b3, b4, b5], _ =>
      have hcd:cN (kJ H.stuff H.kind M.step M.mx M.my [b0,b1,b2,b3,b4,b5])=4*M.pat+H.chr:=K4 hv q1;have may:=fun x hx=>q2 x hx
      have y0:=q2 b0 (by simp);have y1:=q2 b1 (by simp);have y2:=q2 b2 (by simp);have y3:=q2 b3 (by simp);have y4:=q2 b4 (by simp);have y5:=q2 b5 (by simp);have w0:∀n,I64 (bH n):=fun n=>by have:=iA n;unfold I64;omega
      have hchr:kE (kJ H.stuff H.kind M.step M.mx M.my [b0,b1,b2,b3,b4,b5])=H.chr:=by rw[qR,hcd];omega
      have hpat:cN (kJ H.stuff H.kind M.step M.mx M.my [b0,b1,b2,b3,b4,b5])/2^2=M.pat:=by rw[hcd];omega
      have hput:=put_eq b px py (kJ H.stuff H.kind M.step M.mx M.my [b0,b1,b2,b3,b4,b5]) rfl;obtain⟨hk,hc⟩:=tq b _ _ m1;have hki:=Hn b ⟨H.kind.toNat,by omega⟩ ⟨H.chr.toNat,by omega⟩;simp only at hki;rw[show ((H.kind.toNat:Nat):Int)=H.kind by omega,show ((H.chr.toNat:Nat):Int)=H.chr by omega]at hki;have hki:=hki m1 (by omega) (by omega);refine⟨?_,⟨?_,?_,?_,uJ y0,uJ y1,uJ y2,uJ y3,uJ y4,uJ y5⟩,?_,?_⟩
      ·show (if H.stuff<0∨64<H.stuff then false else if false=true then b&&vC (kJ H.stuff H.kind M.step M.mx M.my [b0,b1,b2,b3,b4,b5]) else gL b (kJ H.stuff H.kind M.step M.mx M.my [b0,b1,b2,b3,b4,b5])&&qD (kJ H.stuff H.kind M.step M.mx M.my [b0,b1,b2,b3,b4,b5])&&kW (kJ H.stuff H.kind M.step M.mx M.my [b0,b1,b2,b3,b4,b5])&&mW (kJ H.stuff H.kind M.step M.mx M.my [b0,b1,b2,b3,b4,b5]))=true;rw[if_neg (show ¬(H.stuff<0∨64<H.stuff) by omega),if_neg (show ¬(false=true) by decide)];have v1:qD (kJ H.stuff H.kind M.step M.mx M.my [b0,b1,b2,b3,b4,b5])=true:=by
        show ((sD M.step==dw H.kind)&&(sD M.step||decide (M.step=0)))=true;cases hS:dw H.kind with
        |true=>rw[hS,if_pos rfl]at p2;rw[p2];rfl
        |false=>rw[hS,if_neg (by decide)]at p2;rw[p2];rfl
       have v2:kW (kJ H.stuff H.kind M.step M.mx M.my [b0,b1,b2,b3,b4,b5])=true:=by
        show (if aL H.kind=true then decide ([M.mx,M.my]=[0,0]) else decide (bH M.mx=M.mx)&&decide (bH M.my=M.my))=true;cases hI:aL H.kind with
        |true=>rw[hI,if_pos rfl]at p3;rw[if_pos rfl,p3.1,p3.2];rfl
        |false=>rw[hI,if_neg (by decide)]at p3;rw[if_neg (by decide),p3.1,p3.2];simp
       have v3:mW (kJ H.stuff H.kind M.step M.mx M.my [b0,b1,b2,b3,b4,b5])=true:=by
        show (eB (aL H.kind) b0.1 b0.2&&eB (aL H.kind) b1.1 b1.2&&eB (aL H.kind) b2.1 b2.2&&eB (aL H.kind) b3.1 b3.2&&eB (aL H.kind) b4.1 b4.2&&eB (aL H.kind) b5.1 b5.2)=true;rw[y0,y1,y2,y3,y4,y5];rfl
       have v0:gL b (kJ H.stuff H.kind M.step M.mx M.my [b0,b1,b2,b3,b4,b5])=true:=hki;rw[v0,v1,v2,v3];rfl
      ·show I64 M.mx;cases hI:aL H.kind with
       |true=>rw[hI,if_pos rfl]at p3;rw[p3.1];unfold I64;omega
       |false=>rw[hI,if_neg (by decide)]at p3;rw[←p3.1];exact w0 _
      ·show I64 M.my;cases hI:aL H.kind with
       |true=>rw[hI,if_pos rfl]at p3;rw[p3.2];unfold I64;omega
       |false=>rw[hI,if_neg (by decide)]at p3;rw[←p3.2];exact w0 _
      ·show I64 M.step;cases hS:dw H.kind with
       |true =>
        rw[hS,if_pos rfl]at p2;have:M.step = -1∨M.step = -2∨M.step=1∨M.step=2:=of_decide_eq_true p2;unfold I64;omega
       |false=>rw[hS,if_neg (by decide)]at p2;rw[p2];unfold I64;omega
      ·rw[List.length_drop]at q4;omega
      ·rw[hput,hpat,List.take_add,List.map_append,k6,q5,p5];unfold bY jJ fG;rw[hchr,hsf];rfl
theorem Lc(b:Bool)(px py:Int)(c:Cel)(R:List Int)(hR:∀x∈R,x=0∨x=1)(h:dK b c=true):jb b px py ((putRow [] b px py c).map und++R)=(c,0,(putRow [] b px py c).length):=by
 obtain⟨hst,hc⟩:=qG h;unfold jb;rcases hc with hs|⟨hs,h1,h2,h3,h4⟩
 ·have hbb:b=true∧vC c=true:=by
   unfold dK at h;rw[if_neg (by omega),if_pos hs,Bool.and_eq_true]at h;exact h
  obtain⟨rfl,hb⟩:=hbb;have hcel:=LJ hb hs;have hp:putRow [] true px py c=(List.replicate c.stuff.toNat (cA true)).flatten++fG true ⟨c.stuff,true,0,0,0,(putRow [] true px py c).length⟩:=by
   unfold putRow bY jJ fG;rw[hs];simp
  have hd:=tK true ⟨c.stuff,true,0,0,0,(putRow [] true px py c).length⟩ R hst.2 rfl (fun _=>⟨rfl,rfl,rfl⟩) (fun h=>(by cases h)) c.stuff.toNat 65 0 (by simp only;omega) (by omega) (by rw[←hp]);rw[←hp]at hd;rw[hd];unfold Dc;simp only[ne_eq,not_true_eq_false,if_false,if_true];rw[←hcel]
 ·have hput:=put_eq b px py c hs;have hm:=qc h1;have hkk:=h1;unfold gL aL at hkk;simp only[Bool.or_eq_true,Bool.and_eq_true,decide_eq_true_eq]at hkk;have hhd:bY b c=(List.replicate c.stuff.toNat (cA b)).flatten++fG b ⟨c.stuff,false,c.kind,kE c,0,(bY b c).length⟩:=by
   unfold bY jJ fG;rw[hs]
  have hcb:=kS c;have hce:=qR c;have hbm:∀x∈ry c,eB (aL c.kind) x.1 x.2=true:=by
   unfold mW at h4;simp only[Bool.and_eq_true]at h4;obtain⟨⟨⟨⟨⟨g0,g1⟩,g2⟩,g3⟩,g4⟩,g5⟩:=h4;intro x hx;simp only[ry,List.mem_cons,List.not_mem_nil,or_false]at hx;rcases hx with rfl|rfl|rfl|rfl|rfl|rfl<;>assumption
  have e1:(putRow [] b px py c).map und++R=(bY b c).map und++((pq c.kind px py (cN c/2^2) c.step c.mx c.my).map und++(((ry c).flatMap fun x=>dI (aL c.kind) x.1 x.2).map und++R)):=by
   rw[hput];simp only[List.map_append,List.append_assoc]
  have hd:=tK b ⟨c.stuff,false,c.kind,kE c,0,(bY b c).length⟩ ((pq c.kind px py (cN c/2^2) c.step c.mx c.my).map und++(((ry c).flatMap fun x=>dI (aL c.kind) x.1 x.2).map und++R)) hst.2 rfl (fun h=>(by cases h))
   (fun _=>⟨hm,by simp only;omega,by simp only;omega⟩) c.stuff.toNat 65 0 (by simp only;omega) (by omega) (by rw[←hhd])
  rw[←hhd]at hd;have hmd:=M9 c.kind px py (cN c/2^2) c.step c.mx c.my (((ry c).flatMap fun x=>dI (aL c.kind) x.1 x.2).map und++R) (by omega)
   (by
    unfold qD at h2;cases hS:dw c.kind with
    |true =>
     rw[hS]at h2;simp only[Bool.and_eq_true,beq_iff_eq]at h2;rw[if_pos rfl];exact h2.1
    |false =>
     rw[hS]at h2;simp only[Bool.and_eq_true,beq_iff_eq]at h2;rw[if_neg (by decide)];obtain⟨g1,g2⟩:=h2;rw[g1,Bool.false_or]at g2
     exact of_decide_eq_true g2)
   (by
    unfold kW at h3;cases hI:aL c.kind with
    |true =>
     rw[hI,if_pos rfl]at h3;have:=of_decide_eq_true h3;simp only[List.cons.injEq,and_true]at this;rw[if_pos rfl];exact this
    |false =>
     rw[hI,if_neg (by decide)]at h3;simp only[Bool.and_eq_true,decide_eq_true_eq]at h3
     rw[if_neg (by decide)];exact h3)
  have hbd:=Gv (aL c.kind) (ry c) ((pq c.kind px py (cN c/2^2) c.step c.mx c.my).map und) R hR hbm;have hcds:(ry c).map (fun x=>!x.2.isEmpty)=cds (4*(cN c/2^2)+kE c):=by
   rw[hce,show 4*(cN c/2^2)+cN c%4=cN c by omega,JB];rfl
  rw[hcds,List.length_map]at hbd;rw[e1,hd];unfold Dc;simp only[ne_eq,not_true_eq_false,if_false];rw[if_neg (by decide),List.drop_left' (by rw[List.length_map]),hmd];simp only[not_true_eq_false,if_false];rw[hbd];simp only[not_true_eq_false,if_false];have hlen:(putRow [] b px py c).length=(bY b c).length+((pq c.kind px py (cN c/2^2) c.step c.mx c.my).length+((ry c).flatMap fun x=>dI (aL c.kind) x.1 x.2).length):=by
   rw[hput,List.length_append,List.length_append]
  rw[hlen];congr 1;obtain⟨st,sk,ki,sp,mx,my,d0,d1,d2,d3,d4,d5,e0,e1,e2,e3,e4,e5⟩:=c;simp only at hs;subst hs;rfl
end Rn
end Go.Proofs.YtbpednchkndocaaGreatDoor.Av
