/- The parts of cells, there and back. Cells, there and back. Cells, there and back: whole cells. -/
import Derived.Test.YtbpednchkndocaaGreatDoorPr1
import Derived.Test.YtbpednchkndocaaGreatDoorPq5
import Derived.Test.YtbpednchkndocaaGreatDoorCo6
set_option linter.unusedVariables false
set_option linter.unusedSimpArgs false
set_option maxRecDepth 100000
set_option maxHeartbeats 64000000
namespace Go.Proofs.YtbpednchkndocaaGreatDoor.Av
namespace Rn
open Go Bt Tc Bl Co Ci Mb
theorem Oq:∀b:Bool,∀i:_root_.Fin 21,i.val<(iF b).length→l9 b (((i.val:Int)+(if b=true then 0 else 12)) / 4) (((i.val:Int)+(if b=true then 0 else 12))%4)=true ∧
  fT b (((i.val:Int)+(if b=true then 0 else 12)) / 4) (((i.val:Int)+(if b=true then 0 else 12))%4)=(iF b).getD i.val []:=by
 intro b
 rw[zY]
 cases b<;>decide +kernel
theorem Ji (b:Bool) (B:List Int) (hB:∀x∈B,x=0∨x=1) (h:(mbN b B).2.2.1=0) :
  l9 b (mbN b B).1 (mbN b B).2.1=true∧(mbN b B).1≠2∧(mbN b B).2.2.2≤B.length∧(B.take (mbN b B).2.2.2).map bM=fT b (mbN b B).1 (mbN b B).2.1:=by
 have hle:=xW b B
 have ha:=qf (iF b) (B.map bM) []
 have hl:=nN b
 unfold mbN mbX at h hle ⊢
 generalize cV (iF b) (B.map bM) []=y at *
 obtain⟨i,e,c⟩:=y
 simp only at h ha hle ⊢
 by_cases he:e=0
 ·rw[if_pos he]at h hle ⊢
  obtain⟨_,n,hn,hrow⟩:=ha he
  subst hn
  simp only[List.length_nil,Nat.sub_zero,List.nil_append]at hrow
  rw[←List.map_take]at hrow
  have hn:=aJ hrow
  have hk:=Oq b ⟨n,by rw[hl]at hn;split at hn<;>omega⟩ hn
  simp only at hk
  by_cases h2:((n:Int)+(if b=true then 0 else 12)) / 4=2
  ·rw[if_pos h2]at h;cases h
  ·rw[if_neg h2]at hle ⊢
   refine⟨hk.1,h2,hle,?_⟩
   rw[hk.2,List.getD_eq_getElem?_getD,hrow,Option.getD_some]
 ·rw[if_neg he]at h
  exact absurd h he
theorem JW (b:Bool) (B:List Int) (hB:∀x∈B,x=0∨x=1) (h:(cbN b B).2.1=0) :
  (0≤(cbN b B).1∧(cbN b B).1≤15)∧(cbN b B).2.2≤B.length∧(B.take (cbN b B).2.2).map bM=Cb.qR b (cbN b B).1:=by
 have hle:=pX b B
 have ha:=qf Cb.cbR (B.map bM) []
 have hl:Cb.cbR.length=16:=rfl
 unfold cbN Cb.cbX at h hle ⊢
 generalize cV Cb.cbR (B.map bM) []=y at *
 obtain⟨i,e,c⟩:=y
 simp only at h ha hle ⊢
 subst h
 simp only[if_true]at hle ⊢
 obtain⟨_,n,hn,hrow⟩:=ha rfl
 subst hn
 simp only[List.length_nil,Nat.sub_zero,List.nil_append]at hrow
 rw[←List.map_take]at hrow
 have hn:=aJ hrow
 have ht:=Cb.Fg b (n:Int) (by omega)
 refine⟨ht,hle,?_⟩
 rw[Cb.H3 b _ ht,Cb.Iw,Int.toNat_natCast,List.getD_eq_getElem?_getD,hrow,Option.getD_some]
theorem CU (B:List Int) (hB:∀x∈B,x=0∨x=1) (h:(mvN B).2.1=0) :
  (-32≤(mvN B).1∧(mvN B).1≤31)∧(mvN B).2.2≤B.length∧(B.take (mvN B).2.2).map bM=Mv.oN (mvN B).1:=by
 have hle:=nL hB
 have hs:=BF hB
 have ha:=qf Mv.dL (B.map bM) []
 unfold mvN at h hle ⊢
 generalize Mv.mt B 0 1=x at *
 generalize cV Mv.dL (B.map bM) []=y at *
 obtain⟨i,e,c⟩:=y
 obtain⟨d,e',c'⟩:=x
 obtain⟨a1,a2,a3⟩:=hs
 simp only[Prod.mk.injEq]at a1
 obtain⟨rfl,rfl⟩:=a1
 simp only at h ha hle a2 ⊢
 subst h
 simp only[if_true]at hle ⊢
 obtain⟨_,n,hn,hrow⟩:=ha rfl
 have hd:=a2 rfl
 subst hn
 simp only[List.length_nil,Nat.sub_zero,List.nil_append]at hrow
 rw[←List.map_take]at hrow
 have hn:=aJ hrow
 rw[Mv.oG]at hn
 rw[Mv.wG n hn]at hrow
 refine⟨by omega,hle,?_⟩
 rw[hd]
 exact (Option.some.inj hrow).symm
theorem IK (B:List Int) (hB:∀x∈B,x=0∨x=1) (h:(stN B).2.1=0) :
  xp (stN B).1=true∧(stN B).2.2≤B.length∧(B.take (stN B).2.2).map bM=wh (stN B).1:=by
 unfold stN stX at h ⊢
 by_cases h2:B.length<2
 ·rw[if_pos h2]at h;cases h
 ·rw[if_neg h2]
  match B,h2 with
  |x::y::r,_ =>
   have hx:=hB x (by simp)
   have hy:=hB y (by simp)
   simp only[List.take_succ_cons,List.take_zero]
   refine⟨?_,by simp,?_⟩
   ·rcases hx with rfl|rfl<;>rcases hy with rfl|rfl<;>rfl
   ·rcases hx with rfl|rfl<;>rcases hy with rfl|rfl<;>rfl
theorem DD (intra:Bool):∀(cs:List Bool) (B:List Int) (q:Nat),(∀x∈B,x=0∨x=1)→q≤B.length→(bdX intra cs B q).2.1=0 →
  cs=(bdX intra cs B q).1.map (fun x=>!x.2.isEmpty)∧(∀x∈(bdX intra cs B q).1,gV intra x.1 x.2=true)∧q≤(bdX intra cs B q).2.2∧(bdX intra cs B q).2.2≤B.length ∧
  (B.take (bdX intra cs B q).2.2).map bM=(B.take q).map bM++(bdX intra cs B q).1.flatMap fun x=>lL intra x.1 x.2
 |[],B,q,hB,hq,h=>⟨rfl,by simp[bdX],by simp[bdX],by simpa[bdX]using hq,by simp[bdX]⟩
 |c::cs,B,q,hB,hq,h=>by
  rw[bdX]at h ⊢
  by_cases h0:(blX intra c (B.drop q)).2.2.1≠0
  ·rw[if_pos h0]at h;exact absurd h h0
  ·rw[if_neg h0]at h ⊢
   obtain⟨o1,o2,o3,o4⟩:=J2 intra c (B.drop q) (fun b hb=>hB b (List.mem_of_mem_drop hb)) (by simpa using h0)
   rw[List.length_drop]at o2
   generalize blX intra c (B.drop q)=x at *
   obtain⟨i1,i2,i3,i4,i5⟩:=DD intra cs B (q+x.2.2.2) hB (by omega) h
   generalize bdX intra cs B (q+x.2.2.2)=y at *
   simp only
   refine⟨?_,?_,by omega,i4,?_⟩
   ·rw[List.map_cons,←i1,←o4]
   ·intro z hz
    rcases List.mem_cons.1 hz with rfl|hz
    ·exact o1
    ·exact i2 z hz
   ·rw[i5,List.take_add,List.map_append,o3,List.flatMap_cons,List.append_assoc]
end Rn
namespace Rn
open Go Bt Tc Bl Co Ci Mb
attribute [local irreducible] mbN cbN mvN stN bdX fT l9 lL gV
theorem Ep:∀b:Bool,∀k:_root_.Fin 6,∀c:_root_.Fin 4,l9 b k.val c.val=true→k.val≠5→k.val≠2→(bf k.val||(b&&decide ((k.val:Int)=0∨(k.val:Int)=1)))=true:=by
 unfold l9;decide +kernel
theorem LL:∀b:Bool,∀c:_root_.Fin 4,l9 b 5 c.val=true→c.val=0:=by unfold l9;decide +kernel
def sN (b:Bool) (h:HdR):List UInt8:=if h.skip=true then [49] else again b++fT b h.kind h.chr
structure Oa (b:Bool) (n:Int) (B:List Int) (h:HdR):Prop where
 lo:n≤h.stuff
 hi:h.stuff≤64
 le:h.used≤B.length
 sk:h.skip=true→b=true
 ki:h.skip=false→l9 b h.kind h.chr=true∧h.kind≠5∧h.kind≠2
 row:(B.take h.used).map bM=(List.replicate (h.stuff - n).toNat (dU b)).flatten++sN b h
theorem tP (b:Bool):∀(f:Nat) (n:Int) (B:List Int),n≤64→(∀x∈B,x=0∨x=1)→(hdX b f n B).err=0→Oa b n B (hdX b f n B)
 |0,n,B,_,_,h=>by simp[hdX]at h
 |f+1,n,B,hn,hB,h=>by
  have key:∀k:Nat,k≤B.length→(B.take k).map bM=again b→(hdK n k (mbN b (B.drop k)) (hdX b f (n+1) (B.drop (k+(mbN b (B.drop k)).2.2.2)))).err=0 →
    Oa b n B (hdK n k (mbN b (B.drop k)) (hdX b f (n+1) (B.drop (k+(mbN b (B.drop k)).2.2.2)))):=by
   intro k hk ha h
   have mo:=Ji b (B.drop k) (fun x hx=>hB x (List.mem_of_mem_drop hx))
   unfold hdK at h ⊢
   by_cases h0:(mbN b (B.drop k)).2.2.1≠0
   ·rw[if_pos h0]at h;exact absurd h h0
   ·rw[if_neg h0]at h ⊢
    obtain⟨m1,m2,m3,m4⟩:=mo (by simpa using h0)
    rw[List.length_drop]at m3
    by_cases h5:(mbN b (B.drop k)).1≠5
    ·rw[if_pos h5]
     refine⟨by simp only;omega,hn,by simp only;omega,fun h=>(by cases h),fun _=>⟨m1,h5,m2⟩,?_⟩
     unfold sN
     simp only[Bool.false_eq_true,if_false]
     rw[show (n - n).toNat=0 by omega,List.replicate_zero,List.flatten_nil,List.nil_append,List.take_add,List.map_append,ha,m4]
    ·rw[if_neg h5]at h ⊢
     have e5:(mbN b (B.drop k)).1=5:=by simpa using h5
     rw[e5]at m1 m4
     have hc0:(mbN b (B.drop k)).2.1=0:=by
      obtain⟨_,c1,c2⟩:=tN b _ _ m1
      have:=LL b ⟨(mbN b (B.drop k)).2.1.toNat,by omega⟩
      simp only at this
      rw[show (((mbN b (B.drop k)).2.1.toNat:Nat):Int)=(mbN b (B.drop k)).2.1 by omega]at this
      have:=this m1
      omega
     rw[hc0]at m4
     by_cases h64:n=64
     ·rw[if_pos h64]at h;cases h
     ·rw[if_neg h64]at h ⊢
      have ih:=tP b f (n+1) (B.drop (k+(mbN b (B.drop k)).2.2.2)) (by omega) (fun x hx=>hB x (List.mem_of_mem_drop hx)) h
      generalize (mbN b (B.drop k)).2.2.2=u at *
      generalize hdX b f (n+1) (B.drop (k+u))=y at *
      obtain⟨i1,i2,i3,i4,i5,i6⟩:=ih
      rw[List.length_drop]at i3
      refine⟨by simp only;omega,i2,by simp only;omega,i4,i5,?_⟩
      simp only
      rw[List.take_add,List.map_append,i6,List.take_add,List.map_append,ha,m4,show (y.stuff - n).toNat=(y.stuff - (n+1)).toNat+1 by omega,List.replicate_succ,List.flatten_cons]
      unfold dU
      simp[List.append_assoc,sN]
  rw[hdX]at h ⊢
  cases b with
  |false =>
   simp only[Bool.false_eq_true,if_false]at h ⊢
   have:=key 0 (Nat.zero_le _) rfl
   simp only[List.drop_zero,Nat.zero_add]at this
   exact this h
  |true =>
   simp only[if_true]at h ⊢
   by_cases h0:B=[]
   ·rw[if_pos h0]at h;cases h
   ·rw[if_neg h0]at h ⊢
    match B,h0 with
    |x::r,_ =>
     have hx:=hB x (by simp)
     simp only[List.getD_cons_zero]at h ⊢
     by_cases h1:x=1
     ·rw[if_pos h1]
      subst h1
      refine⟨Int.le_refl _,hn,by simp,fun _=>rfl,fun h=>(by cases h),?_⟩
      simp only
      rw[show (n - n).toNat=0 by omega]
      rfl
     ·rw[if_neg h1]at h ⊢
      have:x=0:=by omega
      subst this
      exact key 1 (by simp) rfl h
def zV (k px py:Int) (pat step mx my:Int):List UInt8:=Cb.qR (bf k) pat++((if dP k=true then wh step else [])++((if bf k=true then [] else Mv.oN (cW (mx - cW px)))++(if bf k=true then [] else Mv.oN (cW (my - cW py)))))
theorem Fb (p d:Int) (h : -32≤d∧d≤31):cW (wr p d - cW p)=d:=by unfold wr cW;omega
theorem MM (p d:Int):cW (wr p d)=wr p d:=by unfold wr cW;omega
structure N8 (k px py:Int) (B:List Int) (m:MdR):Prop where
 pat:0≤m.pat∧m.pat≤15
 st:if dP k=true then xp m.step=true else m.step=0
 mv:if bf k=true then m.mx=0∧m.my=0 else cW m.mx=m.mx∧cW m.my=m.my
 le:m.used≤B.length
 row:(B.take m.used).map bM=zV k px py m.pat m.step m.mx m.my
theorem zW (k px py:Int) (B:List Int) (pat step:Int) (q:Nat) (hB:∀x∈B,x=0∨x=1) (hq:q≤B.length) (hp:0≤pat∧pat≤15) (hs:if dP k=true then xp step=true else step=0)
  (hr:(B.take q).map bM=Cb.qR (bf k) pat++(if dP k=true then wh step else [])) (h:(mdM k px py B pat step q).err=0):N8 k px py B (mdM k px py B pat step q):=by
 unfold mdM at h ⊢
 cases hI:bf k with
 |true =>
  rw[hI]at hr h
  simp only[if_true]at h ⊢
  exact⟨hp,hs,by rw[hI];simp,hq,by unfold zV;rw[hI,hr];simp⟩
 |false =>
  rw[hI]at hr h
  simp only[Bool.false_eq_true,if_false]at h ⊢
  have m1:=CU (B.drop q) (fun x hx=>hB x (List.mem_of_mem_drop hx))
  by_cases h0:(mvN (B.drop q)).2.1≠0
  ·rw[if_pos h0]at h;exact absurd h h0
  ·rw[if_neg h0]at h ⊢
   obtain⟨a1,a2,a3⟩:=m1 (by simpa using h0)
   rw[List.length_drop]at a2
   have m2:=CU (B.drop (q+(mvN (B.drop q)).2.2)) (fun x hx=>hB x (List.mem_of_mem_drop hx))
   generalize mvN (B.drop q)=x at *
   obtain⟨b1,b2,b3⟩:=m2 h
   rw[List.length_drop]at b2
   generalize mvN (B.drop (q+x.2.2))=y at *
   refine⟨hp,hs,by rw[hI];simp[MM],by simp only;omega,?_⟩
   unfold zV
   rw[hI]
   simp only[Bool.false_eq_true,if_false]
   rw[Fb px x.1 a1,Fb py y.1 b1,List.take_add,List.map_append,List.take_add,List.map_append,hr,a3,b3]
   simp[List.append_assoc]
theorem Jg (k px py:Int) (B:List Int) (hB:∀x∈B,x=0∨x=1) (h:(mdX k px py B).err=0):N8 k px py B (mdX k px py B):=by
 have c1:=JW (bf k) B hB
 unfold mdX at h ⊢
 by_cases h0:(cbN (bf k) B).2.1≠0
 ·rw[if_pos h0]at h;exact absurd h h0
 ·rw[if_neg h0]at h ⊢
  obtain⟨a1,a2,a3⟩:=c1 (by simpa using h0)
  generalize cbN (bf k) B=x at *
  have s1:=IK (B.drop x.2.2) (fun x hx=>hB x (List.mem_of_mem_drop hx))
  by_cases hS:dP k=true
  ·rw[if_pos hS]at h ⊢
   by_cases h1:(stN (B.drop x.2.2)).2.1≠0
   ·rw[if_pos h1]at h;exact absurd h h1
   ·rw[if_neg h1]at h ⊢
    obtain⟨b1,b2,b3⟩:=s1 (by simpa using h1)
    rw[List.length_drop]at b2
    refine zW k px py B _ _ _ hB (by omega) a1 (by rw[if_pos hS];exact b1) ?_ h
    rw[if_pos hS,List.take_add,List.map_append,a3,b3]
  ·rw[if_neg hS]at h ⊢
   exact zW k px py B _ _ _ hB a2 a1 (by rw[if_neg hS]) (by rw[if_neg hS,a3,List.append_nil]) h
end Rn
namespace Rn
open Go Bt Tc Bl Co Ci Mb
set_option maxHeartbeats 2000000
theorem rY {v:Int} {i:Nat} {l:List Ev} (h:bv v i=!l.isEmpty):v / 2^(5 - i)%2=ku l:=by
 unfold bv at h
 unfold ku
 rw[nT]
 cases l with
 |nil =>
  have h':¬v / 2^(5 - i)%2=1:=of_decide_eq_false h
  rw[if_neg (by simp)]
  omega
 |cons x r =>
  have h':v / 2^(5 - i)%2=1:=of_decide_eq_true h
  rw[if_pos (by simp only[List.length_cons];omega)]
  exact h'
theorem NW:∀v:_root_.Fin 64,32*((v.val:Int) / 2^(5 - 0)%2)+16*((v.val:Int) / 2^(5 - 1)%2)+8*((v.val:Int) / 2^(5 - 2)%2)+4*((v.val:Int) / 2^(5 - 3)%2)+2*((v.val:Int) / 2^(5 - 4)%2)+(v.val:Int) / 2^(5 - 5)%2=v.val:=by decide +kernel
theorem HM {v:Int} {c:Cel} (h:0≤v∧v<64) (hc:cds v=[!c.e0.isEmpty,!c.e1.isEmpty,!c.e2.isEmpty,!c.e3.isEmpty,!c.e4.isEmpty,!c.e5.isEmpty]):fK c=v:=by
 unfold cds at hc
 simp only[List.cons.injEq,and_true]at hc
 obtain⟨h0,h1,h2,h3,h4,h5⟩:=hc
 have k0:=rY h0
 have k1:=rY h1
 have k2:=rY h2
 have k3:=rY h3
 have k4:=rY h4
 have k5:=rY h5
 unfold fK
 rw[←k0,←k1,←k2,←k3,←k4,←k5]
 have:=NW ⟨v.toNat,by omega⟩
 simp only at this
 rwa [show ((v.toNat:Nat):Int)=v by omega]at this
def Kw (c:Cel):List (Int×List Ev):=[(c.d0,c.e0),(c.d1,c.e1),(c.d2,c.e2),(c.d3,c.e3),(c.d4,c.e4),(c.d5,c.e5)]
theorem put_eq (b:Bool) (px py:Int) (c:Cel) (h:c.skip=false):putRow [] b px py c=fI b c++(zV c.kind px py (fK c / 2^2) c.step c.mx c.my++(Kw c).flatMap fun x=>lL (bf c.kind) x.1 x.2):=by
 unfold putRow zV Kw stR mvR
 rw[h,if_neg (by decide)]
 simp only[List.flatMap_cons,List.flatMap_nil,List.append_nil,List.nil_append,List.append_assoc]
theorem rP {b:Bool} {dc:Int} {l:List Ev} (h:gV b dc l=true):sS l:=by
 obtain⟨h1,h2,_⟩:=ET h
 refine⟨by omega,fun e he=>?_⟩
 have:=Hp (h1 e he)
 unfold MJ
 omega
theorem HX (b:Bool) (px py:Int) (B:List Int) (hB:∀x∈B,x=0∨x=1) (h:(gy b px py B).2.1=0) :
  kw b (gy b px py B).1=true∧vM (gy b px py B).1∧(gy b px py B).2.2≤B.length∧(B.take (gy b px py B).2.2).map bM=putRow [] b px py (gy b px py B).1:=by
 have ho:=tP b 65 0 B (by decide) hB
 unfold gy at h ⊢
 generalize hdX b 65 0 B=H at *
 unfold kH at h ⊢
 by_cases h0:H.err≠0
 ·rw[if_pos h0]at h;exact absurd h h0
 ·rw[if_neg h0]at h ⊢
  obtain⟨k1,k2,k3,k4,k5,k6⟩:=ho (by simpa using h0)
  rw[Int.sub_zero]at k6
  by_cases hs:H.skip=true
  ·rw[if_pos hs]
   have hb:=k4 hs
   subst hb
   have nil:sS []:=⟨by decide,by simp⟩
   refine⟨?_,⟨by unfold I64;simp only;omega,by unfold I64;simp only;omega,by unfold I64;simp only;omega,nil,nil,nil,nil,nil,nil⟩,k3,?_⟩
   ·unfold kw
    simp only
    rw[if_neg (by omega)]
    rfl
   ·simp only
    rw[k6]
    unfold putRow fI kz sN
    rw[hs]
    simp
  ·rw[if_neg hs]at h ⊢
   have hsf:H.skip=false:=by simpa using hs
   obtain⟨m1,m2,m3⟩:=k5 hsf
   have hB1:∀x∈B.drop H.used,x=0∨x=1:=fun x hx=>hB x (List.mem_of_mem_drop hx)
   have mo:=Jg H.kind px py (B.drop H.used) hB1
   generalize hM:mdX H.kind px py (B.drop H.used)=M at *
   by_cases h1:M.err≠0
   ·rw[if_pos h1]at h;exact absurd h h1
   ·rw[if_neg h1]at h ⊢
    obtain⟨p1,p2,p3,p4,p5⟩:=mo (by simpa using h1)
    have bo:=DD (bf H.kind) (cds (4*M.pat+H.chr)) (B.drop H.used) M.used hB1 p4
    generalize hY:bdX (bf H.kind) (cds (4*M.pat+H.chr)) (B.drop H.used) M.used=Y at *
    by_cases h2:Y.2.1≠0
    ·rw[if_pos h2]at h;exact absurd h h2
    ·rw[if_neg h2]at h ⊢
     obtain⟨q1,q2,q3,q4,q5⟩:=bo (by simpa using h2)
     obtain⟨L,er,q'⟩:=Y
     simp only at q1 q2 q3 q4 q5 ⊢
     obtain⟨_,hc⟩:=tN b _ _ m1
     have hv:0≤4*M.pat+H.chr∧4*M.pat+H.chr<64:=by omega
     have hlen:L.length=6:=by
      have:=congrArg List.length q1
      rw[List.length_map]at this
      rw[←this];rfl
     match L,hlen with
     |[b0,b1,b2,b3,b4,b5],_ =>
      have hcd:fK (jB H.stuff H.kind M.step M.mx M.my [b0,b1,b2,b3,b4,b5])=4*M.pat+H.chr:=HM hv q1
      have may:=fun x hx=>q2 x hx
      have y0:=q2 b0 (by simp)
      have y1:=q2 b1 (by simp)
      have y2:=q2 b2 (by simp)
      have y3:=q2 b3 (by simp)
      have y4:=q2 b4 (by simp)
      have y5:=q2 b5 (by simp)
      have w0:∀n,I64 (cW n):=fun n=>by have:=gY n;unfold I64;omega
      have hchr:ll (jB H.stuff H.kind M.step M.mx M.my [b0,b1,b2,b3,b4,b5])=H.chr:=by rw[wT,hcd];omega
      have hpat:fK (jB H.stuff H.kind M.step M.mx M.my [b0,b1,b2,b3,b4,b5]) / 2^2=M.pat:=by rw[hcd];omega
      have hput:=put_eq b px py (jB H.stuff H.kind M.step M.mx M.my [b0,b1,b2,b3,b4,b5]) rfl
      obtain⟨hk,hc⟩:=tN b _ _ m1
      have hki:=Ep b ⟨H.kind.toNat,by omega⟩ ⟨H.chr.toNat,by omega⟩
      simp only at hki
      rw[show ((H.kind.toNat:Nat):Int)=H.kind by omega,show ((H.chr.toNat:Nat):Int)=H.chr by omega]at hki
      have hki:=hki m1 (by omega) (by omega)
      refine⟨?_,⟨?_,?_,?_,rP y0,rP y1,rP y2,rP y3,rP y4,rP y5⟩,?_,?_⟩
      ·show (if H.stuff<0∨64<H.stuff then false else if false=true then b&&Ky (jB H.stuff H.kind M.step M.mx M.my [b0,b1,b2,b3,b4,b5]) else jq b (jB H.stuff H.kind M.step M.mx M.my [b0,b1,b2,b3,b4,b5])&&xm (jB H.stuff H.kind M.step M.mx M.my [b0,b1,b2,b3,b4,b5])&&xh (jB H.stuff H.kind M.step M.mx M.my [b0,b1,b2,b3,b4,b5])&&yK (jB H.stuff H.kind M.step M.mx M.my [b0,b1,b2,b3,b4,b5]))=true
       rw[if_neg (show ¬(H.stuff<0∨64<H.stuff) by omega),if_neg (show ¬(false=true) by decide)]
       have v1:xm (jB H.stuff H.kind M.step M.mx M.my [b0,b1,b2,b3,b4,b5])=true:=by
        show ((xp M.step==dP H.kind)&&(xp M.step||decide (M.step=0)))=true
        cases hS:dP H.kind with
        |true=>rw[hS,if_pos rfl]at p2;rw[p2];rfl
        |false=>rw[hS,if_neg (by decide)]at p2;rw[p2];rfl
       have v2:xh (jB H.stuff H.kind M.step M.mx M.my [b0,b1,b2,b3,b4,b5])=true:=by
        show (if bf H.kind=true then decide ([M.mx,M.my]=[0,0]) else decide (cW M.mx=M.mx)&&decide (cW M.my=M.my))=true
        cases hI:bf H.kind with
        |true=>rw[hI,if_pos rfl]at p3;rw[if_pos rfl,p3.1,p3.2];rfl
        |false=>rw[hI,if_neg (by decide)]at p3;rw[if_neg (by decide),p3.1,p3.2];simp
       have v3:yK (jB H.stuff H.kind M.step M.mx M.my [b0,b1,b2,b3,b4,b5])=true:=by
        show (gV (bf H.kind) b0.1 b0.2&&gV (bf H.kind) b1.1 b1.2&&gV (bf H.kind) b2.1 b2.2&&gV (bf H.kind) b3.1 b3.2&&gV (bf H.kind) b4.1 b4.2&&gV (bf H.kind) b5.1 b5.2)=true
        rw[y0,y1,y2,y3,y4,y5];rfl
       have v0:jq b (jB H.stuff H.kind M.step M.mx M.my [b0,b1,b2,b3,b4,b5])=true:=hki
       rw[v0,v1,v2,v3];rfl
      ·show I64 M.mx
       cases hI:bf H.kind with
       |true=>rw[hI,if_pos rfl]at p3;rw[p3.1];unfold I64;omega
       |false=>rw[hI,if_neg (by decide)]at p3;rw[←p3.1];exact w0 _
      ·show I64 M.my
       cases hI:bf H.kind with
       |true=>rw[hI,if_pos rfl]at p3;rw[p3.2];unfold I64;omega
       |false=>rw[hI,if_neg (by decide)]at p3;rw[←p3.2];exact w0 _
      ·show I64 M.step
       cases hS:dP H.kind with
       |true =>
        rw[hS,if_pos rfl]at p2
        have:M.step = -1∨M.step = -2∨M.step=1∨M.step=2:=of_decide_eq_true p2
        unfold I64;omega
       |false=>rw[hS,if_neg (by decide)]at p2;rw[p2];unfold I64;omega
      ·rw[List.length_drop]at q4;omega
      ·rw[hput,hpat,List.take_add,List.map_append,k6,q5,p5]
       unfold fI kz sN
       rw[hchr,hsf]
       rfl
end Rn
end Go.Proofs.YtbpednchkndocaaGreatDoor.Av
