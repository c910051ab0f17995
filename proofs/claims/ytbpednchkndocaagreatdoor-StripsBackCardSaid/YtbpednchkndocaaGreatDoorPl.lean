/- Blocks: what may be one, and its row: both programs. Blocks: Put, and the reference's May and Row. Blocks: the reference's May and Row. -/
import Derived.Test.YtbpednchkndocaaGreatDoorPt2
import Derived.Test.YtbpednchkndocaaGreatDoorPw
set_option linter.unusedVariables false
set_option linter.unusedSimpArgs false
set_option maxRecDepth 100000
set_option maxHeartbeats 64000000
namespace Go.Proofs.YtbpednchkndocaaGreatDoor.Av
namespace Bl
open Go Bt Tc Wr
attribute [local irreducible] aa ACalls
variable {gl:List (Nat×List D)}
def frm(b:Bool):Nat:=if b=true then 1 else 0
def uL(b:Bool)(dc:Int):Bool:=if b=true then decide (1≤dc∧dc≤254) else decide (dc=0)
def eB(b:Bool)(dc:Int)(l:List Ev):Bool:=(lev l (frm b)).isSome&&uL b dc
def gU(b:Bool)(dc:Int):List UInt8:=if b=true then bU (if dc=128 then 255 else dc) 8 8 else []
def dI(b:Bool)(dc:Int)(l:List Ev):List UInt8:=gU b dc++l.flatMap cW
theorem rR:∀(l:List Ev) (a:Nat) (out r:List Int),rS l a out=some r→r.length=out.length∧(∀e∈l,evR e=true)∧(l=[]∨a+l.length≤64)
 |[],a,out,r,h=>by rw[xn]at h;cases h;simp
 | e :: l, a, out, r, h => by
  rw[nU]at h;split at h
  ·rename_i hc;obtain⟨h1,h2,h3⟩:=rR l _ _ r h;refine⟨by rw[h1,List.length_set],fun x hx=>?_, .inr ?_⟩
   ·rcases List.mem_cons.1 hx with rfl|hx
    ·exact hc.1
    ·exact h2 x hx
   ·rcases h3 with rfl|h3
    ·simp only[List.length_cons,List.length_nil];omega
    ·simp only[List.length_cons];omega
  ·cases h
theorem qL{l:List Ev}{a:Nat}{out:List Int}(h:lev l a=some out):out.length=64∧(∀e∈l,evR e=true)∧l.length≤64:=by
 obtain⟨h1,h2,h3⟩:=rR l a z64 out h;refine⟨h1,h2,?_⟩;rcases h3 with rfl|h3
 ·simp
 ·omega
theorem Kt:∀la:Bool,∀ru:_root_.Fin 64,∀w∈rB la ru.val,w.all bB=true:=by decide +kernel
theorem ql(e:Ev)(h:evR e=true):(cW e).all bB=true∧(cW e).length≤30:=by
 have hb:=xC h;have hl:=Kr e.last e.run (kI e.level) hb.1;have hd:(kP e.last e.run (kI e.level)).all bB=true:=by
  unfold kP;split
  ·rfl
  ·rw[List.getD_eq_getElem?_getD];cases hx:(rB e.last e.run)[(kI e.level-1).toNat]? with
   |none=>rfl
   |some w =>
    have:=Kt e.last ⟨e.run.toNat,by omega⟩ w;simp only at this;rw[show ((e.run.toNat:Nat):Int)=e.run by omega]at this;exact this (List.mem_of_getElem? hx)
 have hs:(uw e.level).all bB=true:=by unfold uw;split<;>rfl
 have hsl:=sF e.level;have ht:(rQ e.last).all bB=true:=by unfold rQ;split<;>rfl
 have htl:=tu e.last;unfold cW;rw[if_pos h];split
 ·exact⟨by rw[List.all_append,hd,hs];rfl,by rw[List.length_append];omega⟩
 ·refine⟨?_,?_⟩
  ·simp only[List.all_append,jH,ht,Bool.and_true];rfl
  ·simp only[List.length_append,bV,List.length_cons,List.length_nil];omega
theorem rows_ok(l:List Ev)(h:∀e∈l,evR e=true):(l.flatMap cW).all bB=true∧(l.flatMap cW).length≤30*l.length:=by
 induction l with
 |nil=>simp
 |cons e l ih =>
  obtain⟨h1,h2⟩:=ql e (h e (by simp));obtain⟨i1,i2⟩:=ih fun x hx=>h x (by simp[hx])
  rw[List.flatMap_cons,List.all_append,h1,i1,List.length_append,List.length_cons];exact⟨rfl,by omega⟩
theorem C8(b:Bool)(dc:Int):(gU b dc).all bB=true∧(gU b dc).length≤8:=by
 unfold gU;split
 ·exact⟨jH _ _ _,by rw[bV];exact Nat.le_refl _⟩
 ·exact⟨rfl,by simp⟩
theorem Dj(b:Bool)(dc:Int)(l:List Ev)(h:eB b dc l=true):(dI b dc l).all bB=true∧(dI b dc l).length≤2000:=by
 unfold eB at h;rw[Bool.and_eq_true,Option.isSome_iff_exists]at h;obtain⟨⟨out,ho⟩,_⟩:=h;obtain⟨_,h2,h3⟩:=qL ho;obtain⟨r1,r2⟩:=rows_ok l h2;obtain⟨d1,d2⟩:=C8 b dc;unfold dI;rw[List.all_append,d1,r1,List.length_append];exact⟨rfl,by omega⟩
theorem Kw(b:Bool):ACalls (cxg gl) 247 [B b] [] (fun r H=>r=I (frm b:Nat)∧H=[]):=by
 cases b;all_goals
  refine ACalls.en Tryz.func247 Tryz.ntmps247 ?_;repeat' (first|refine aa.aF ?_|refine aa.bh true ?_|refine aa.aB ?_|refine aa.ak ?_|intro _|refine aa.aA ?_)
  all_goals exact Tp
theorem Qi(b:Bool):frm b≤1:=by cases b<;>decide
attribute [local irreducible] bS rS evR lev cW bU
theorem Lx(b:Bool)(dc:Int)(l:List Ev)(hl:l.length≤1000000)(hok:∀e∈l,Br e):ACalls (cxg gl) 215 [B b,I dc, .d (.sl 3 (bS l))] [] (fun r H=>r=B (eB b dc l)∧H=[]):=by
 have fc:=Kw (gl:=gl) b;have lc:=Ka (gl:=gl) l (frm b) (Qi b) hl hok;unfold eB;by_cases hd:uL b dc=true
 ·rw[hd,Bool.and_true];cases hv:lev l (frm b)with
  | none =>
   rw[nT hv]at lc;cases b;all_goals
    unfold uL at hd;simp only[Bool.false_eq_true,if_false,if_true,decide_eq_true_eq]at hd;refine ACalls.en Tryz.func215 Tryz.ntmps215 ?_;repeat' (first|refine aa.aF ?_|refine aa.bh true ?_|refine aa.av (fc) ?_|refine aa.av (lc) ?_|refine aa.ae ?_|refine aa.aB ?_|refine aa.aH ?_|refine aa.aD ?_|refine aa.au ?_|refine aa.bg ?_|refine aa.aC ?_|intro _|(apply aa.cZ ;rfl)|(apply aa.gD;rfl;rfl;rfl)|(apply aa.gS;rfl;rfl;rfl)|refine aa.aA ?_)
    all_goals first|exact⟨rfl,rfl⟩|omega|(exfalso;simp_all;done)|(exfalso;simp at *;omega)
  | some out =>
   obtain⟨f,rfl⟩:=PR out (qL hv).1;rw[uE hv]at lc;cases b;all_goals
    unfold uL at hd;simp only[Bool.false_eq_true,if_false,if_true,decide_eq_true_eq]at hd;refine ACalls.en Tryz.func215 Tryz.ntmps215 ?_;repeat' (first|refine aa.aF ?_|refine aa.bh true ?_|refine aa.av (fc) ?_|refine aa.av (lc) ?_|refine aa.ae ?_|refine aa.aB ?_|refine aa.aH ?_|refine aa.aD ?_|refine aa.au ?_|refine aa.bg ?_|refine aa.aC ?_|intro _|(apply aa.cZ ;rfl)|(apply aa.gD;rfl;rfl;rfl)|(apply aa.gS;rfl;rfl;rfl)|refine aa.aA ?_)
    all_goals first|exact⟨rfl,rfl⟩|omega|(exfalso;simp_all;done)|(exfalso;simp at *;omega)
 ·have hd':uL b dc=false:=by simpa using hd
  rw[hd',Bool.and_false];cases hv:lev l (frm b)with
  | none =>
   rw[nT hv]at lc;cases b;all_goals
    unfold uL at hd';simp only[Bool.false_eq_true,if_false,if_true,decide_eq_false_iff_not]at hd';refine ACalls.en Tryz.func215 Tryz.ntmps215 ?_;repeat' (first|refine aa.aF ?_|refine aa.bh true ?_|refine aa.av (fc) ?_|refine aa.av (lc) ?_|refine aa.ae ?_|refine aa.aB ?_|refine aa.aH ?_|refine aa.aD ?_|refine aa.au ?_|refine aa.bg ?_|refine aa.aC ?_|intro _|(apply aa.cZ ;rfl)|(apply aa.gD;rfl;rfl;rfl)|(apply aa.gS;rfl;rfl;rfl)|refine aa.aA ?_)
    all_goals first|exact⟨rfl,rfl⟩|omega|(exfalso;simp_all;done)|(exfalso;simp at *;omega)
  | some out =>
   obtain⟨f,rfl⟩:=PR out (qL hv).1;rw[uE hv]at lc;cases b;all_goals
    unfold uL at hd';simp only[Bool.false_eq_true,if_false,if_true,decide_eq_false_iff_not]at hd';refine ACalls.en Tryz.func215 Tryz.ntmps215 ?_;repeat' (first|refine aa.aF ?_|refine aa.bh true ?_|refine aa.av (fc) ?_|refine aa.av (lc) ?_|refine aa.ae ?_|refine aa.aB ?_|refine aa.aH ?_|refine aa.aD ?_|refine aa.au ?_|refine aa.bg ?_|refine aa.aC ?_|intro _|(apply aa.cZ ;rfl)|(apply aa.gD;rfl;rfl;rfl)|(apply aa.gS;rfl;rfl;rfl)|refine aa.aA ?_)
    all_goals first|exact⟨rfl,rfl⟩|omega|(exfalso;simp_all;done)|(exfalso;simp at *;omega)
end Bl
namespace Bl
open Go Bt Tc Wr
attribute [local irreducible] aa ACalls
variable {gl:List (Nat×List D)}
theorem uQ{b:Bool}{dc:Int}{l:List Ev}(h:eB b dc l=true):(∀e∈l,evR e=true)∧l.length≤64∧uL b dc=true:=by
 unfold eB at h;rw[Bool.and_eq_true,Option.isSome_iff_exists]at h;obtain⟨⟨out,ho⟩,hd⟩:=h;obtain⟨_,h2,h3⟩:=qL ho;exact⟨h2,h3,hd⟩
theorem uH(l:List Ev)(i:Nat)(e:Ev)(h:l[i]?=some e):(l.take (i+1)).flatMap cW=(l.take i).flatMap cW++cW e:=by
 rw[List.take_add_one,h,List.flatMap_append];simp
theorem LN(l:List Ev)(i:Nat)(h:∀e∈l,evR e=true):∀e∈l.take i,evR e=true:=fun e he=>h e (List.mem_of_mem_take he)
attribute [local irreducible] bS rS evR lev cW bU eB bI bJ
theorem H5(w:List UInt8)(b:Bool)(dc:Int)(l:List Ev)(hl:l.length≤1000000)(hok:∀e∈l,Br e)(h:eB b dc l=false):
  ACalls (cxg gtc) 155 [.ptr 0 0,B b,I dc, .d (.sl 3 (bS l))] (WO w) (fun r H=>r=I 7∧H=WO w):=by
 have mc:=Lx (gl:=gtc) b dc l hl hok;rw[h]at mc;refine ACalls.en Tryz.func155 Tryz.ntmps155 ?_;repeat' (first|refine aa.aF ?_|refine aa.bh true ?_|refine aa.av (mc) ?_|refine aa.aB ?_|refine aa.ak ?_|intro _|refine aa.aA ?_)
 all_goals exact Tp
theorem Lu(w:List UInt8)(l:List Ev)(hw:w.all bB=true)(hwl:w.length≤30000000)(hl:l.length≤64)(he:∀e∈l,evR e=true)(i:Nat):
  (w++(l.take i).flatMap cW).all bB=true∧(w++(l.take i).flatMap cW).length≤30002000:=by
 obtain⟨r1,r2⟩:=rows_ok (l.take i) (LN l i he);have:(l.take i).length≤64:=by rw[List.length_take];omega
 rw[List.all_append,hw,r1,List.length_append];exact⟨rfl,by omega⟩
theorem fQ(w:List UInt8)(b:Bool)(dc:Int)(l:List Ev)(hok:∀e∈l,Br e)(h:eB b dc l=true)(hw:w.all bB=true)(hwl:w.length≤20000000):
    ACalls (cxg gtc) 155 [.ptr 0 0,B b,I dc, .d (.sl 3 (bS l))] (WO w) (fun r H=>r=I 0∧H=WO (w++dI b dc l)):=by
  obtain⟨he,hl,hd⟩:=uQ h;have mc:=Lx (gl:=gtc) b dc l (by omega) hok;rw[h]at mc;have hln:=fS l;obtain⟨d1,d2⟩:=C8 b dc;have hv:b=true→0≤(if dc=128 then 255 else dc)∧(if dc=128 then 255 else dc)<2^8:=fun hb=>by
    subst hb;unfold uL at hd;simp only[if_true,decide_eq_true_eq]at hd;split<;>omega
  have wp:=fun hb=>ul (gl:=gtc) w (if dc=128 then 255 else dc) 8 hw (by omega) (by decide) (hv hb)
  have bl:=fun i=>Lu (w++gU b dc) l (by rw[List.all_append,hw,d1];rfl) (by rw[List.length_append];omega) hl he i
  unfold dI;rw[←List.append_assoc];have e0:w++gU b dc=w++gU b dc++(l.take 0).flatMap cW:=by simp
  cases b
  · have hd0 : dc = 0 := by unfold uL at hd; simpa using hd
    subst hd0
    · refine ACalls.en Tryz.func155 Tryz.ntmps155 ?_
      repeat (first|refine aa.aF ?_|refine aa.bh true ?_|refine aa.av (mc) ?_|refine aa.ah ?_|refine aa.ae ?_|refine aa.aB ?_|refine aa.ak ?_|refine aa.aH ?_|refine aa.aD ?_)
      refine aa.weak (env':=[(30,I ((0:Nat):Int)),(29,I ((bS l).length:Int)),(28, .d (.sl 3 (bS l))),(0, .ptr 0 0)]) ⟨rfl,rfl,rfl,rfl,trivial⟩ ?_;refine aa.loop (fun m env H=>∃i:Nat,m=l.length-i∧i≤l.length∧env=[(30,I (i:Int)),(29,I ((bS l).length:Int)),(28, .d (.sl 3 (bS l))),(0, .ptr 0 0)]∧H=WO (w++gU false 0++(l.take i).flatMap cW)) l.length
        ⟨0,rfl,by omega,rfl,by rw[←e0];unfold gU;rw[if_neg (by decide),List.append_nil]⟩ ?_
      rintro m env H ⟨i,rfl,hi,rfl,rfl⟩;obtain⟨b1,b2⟩:=bl i;rcases Nat.lt_or_ge i l.length with hlt|hge
      · obtain ⟨e, hee⟩ : ∃ e, l[i]? = some e := ⟨_, List.getElem?_eq_getElem hlt⟩
        have g1:=fun (ti:TI) (ha:ti.agg=true) (hs:ti.size=3)=>qP ti ha hs l i e hee
        have hR:=he e (List.mem_of_getElem? hee);obtain⟨r1,r2⟩:=ql e hR;have rc:=A7 e;rw[hR]at rc;have ad:=rC (gl:=gtc) (w++gU false 0++(l.take i).flatMap cW) (cW e) b1 r1 (by omega);rw[List.append_assoc (w++gU false 0),←uH l i e hee]at ad;repeat' (first|refine aa.aF ?_|refine aa.q'b true ?_|refine aa.aj [0,1] (ad) ?_|refine aa.av (rc) ?_|refine aa.ah ?_|refine aa.ae ?_|refine aa.aB ?_|refine aa.ak ?_|refine aa.aH ?_|refine aa.aD ?_|(apply aa.oM;(iterate 6 rfl);exact (g1 _ rfl rfl))|intro _|refine aa.aA ?_|refine aa.aJ ?_)
        all_goals first
          | (refine aa.drop 2 (env' := [(30, I ((i + 1 : Nat) : Int)), (29, I ((bS l).length : Int)), (28, .d (.sl 3 (bS l))), (0, .ptr 0 0)]) (Nat.le_refl _) (by simp) (fun o ho => gb (m := 2) rfl o ho) ⟨rfl, rfl, rfl, rfl, trivial⟩ (ja 2 _ rfl) ?_
             exact aa.round [(30,I ((i+1:Nat):Int)),(29,I ((bS l).length:Int)),(28, .d (.sl 3 (bS l))),(0, .ptr 0 0)] (l.length-(i+1)) (by omega) ⟨rfl,rfl,rfl,rfl,trivial⟩ ⟨i+1,rfl,hlt,rfl,rfl⟩)
      · obtain rfl : i = l.length := by omega
        rw[List.take_length];repeat' (first|refine aa.aF ?_|refine aa.bh true ?_|refine aa.ah ?_|refine aa.ae ?_|refine aa.aB ?_|refine aa.ak ?_|refine aa.aH ?_|refine aa.aD ?_|intro _|refine aa.aA ?_|refine aa.aJ ?_)
        all_goals exact Tn
  · have wp' := wp rfl
    by_cases h128:dc=128
    · subst h128
      simp only[if_true]at wp';refine ACalls.en Tryz.func155 Tryz.ntmps155 ?_;repeat (first|refine aa.aF ?_|refine aa.bh true ?_|refine aa.aj [0,1] (wp') ?_|refine aa.av (mc) ?_|refine aa.ah ?_|refine aa.ae ?_|refine aa.aB ?_|refine aa.ak ?_|refine aa.aH ?_|refine aa.aD ?_)
      refine aa.weak (env':=[(30,I ((0:Nat):Int)),(29,I ((bS l).length:Int)),(28, .d (.sl 3 (bS l))),(0, .ptr 0 0)]) ⟨rfl,rfl,rfl,rfl,trivial⟩ ?_;refine aa.loop (fun m env H=>∃i:Nat,m=l.length-i∧i≤l.length∧env=[(30,I (i:Int)),(29,I ((bS l).length:Int)),(28, .d (.sl 3 (bS l))),(0, .ptr 0 0)]∧H=WO (w++gU true 128++(l.take i).flatMap cW)) l.length
        ⟨0,rfl,by omega,rfl,by rw[←e0];unfold gU;rw[if_pos rfl,if_pos rfl]⟩ ?_
      rintro m env H ⟨i,rfl,hi,rfl,rfl⟩;obtain⟨b1,b2⟩:=bl i;rcases Nat.lt_or_ge i l.length with hlt|hge
      · obtain ⟨e, hee⟩ : ∃ e, l[i]? = some e := ⟨_, List.getElem?_eq_getElem hlt⟩
        have g1:=fun (ti:TI) (ha:ti.agg=true) (hs:ti.size=3)=>qP ti ha hs l i e hee
        have hR:=he e (List.mem_of_getElem? hee);obtain⟨r1,r2⟩:=ql e hR;have rc:=A7 e;rw[hR]at rc;have ad:=rC (gl:=gtc) (w++gU true 128++(l.take i).flatMap cW) (cW e) b1 r1 (by omega);rw[List.append_assoc (w++gU true 128),←uH l i e hee]at ad;repeat' (first|refine aa.aF ?_|refine aa.q'b true ?_|refine aa.aj [0,1] (ad) ?_|refine aa.av (rc) ?_|refine aa.ah ?_|refine aa.ae ?_|refine aa.aB ?_|refine aa.ak ?_|refine aa.aH ?_|refine aa.aD ?_|(apply aa.oM;(iterate 6 rfl);exact (g1 _ rfl rfl))|intro _|refine aa.aA ?_|refine aa.aJ ?_)
        all_goals first
          | (refine aa.drop 2 (env' := [(30, I ((i + 1 : Nat) : Int)), (29, I ((bS l).length : Int)), (28, .d (.sl 3 (bS l))), (0, .ptr 0 0)]) (Nat.le_refl _) (by simp) (fun o ho => gb (m := 2) rfl o ho) ⟨rfl, rfl, rfl, rfl, trivial⟩ (ja 2 _ rfl) ?_
             exact aa.round [(30,I ((i+1:Nat):Int)),(29,I ((bS l).length:Int)),(28, .d (.sl 3 (bS l))),(0, .ptr 0 0)] (l.length-(i+1)) (by omega) ⟨rfl,rfl,rfl,rfl,trivial⟩ ⟨i+1,rfl,hlt,rfl,rfl⟩)
      · obtain rfl : i = l.length := by omega
        rw[List.take_length];repeat' (first|refine aa.aF ?_|refine aa.bh true ?_|refine aa.ah ?_|refine aa.ae ?_|refine aa.aB ?_|refine aa.ak ?_|refine aa.aH ?_|refine aa.aD ?_|intro _|refine aa.aA ?_|refine aa.aJ ?_)
        all_goals exact Tn
    · rw [if_neg h128] at wp'
      refine ACalls.en Tryz.func155 Tryz.ntmps155 ?_;repeat (first|refine aa.aF ?_|refine aa.bh true ?_|refine aa.aj [0,1] (wp') ?_|refine aa.av (mc) ?_|refine aa.ah ?_|refine aa.ae ?_|refine aa.aB ?_|refine aa.ak ?_|refine aa.aH ?_|refine aa.aD ?_)
      refine aa.weak (env':=[(30,I ((0:Nat):Int)),(29,I ((bS l).length:Int)),(28, .d (.sl 3 (bS l))),(0, .ptr 0 0)]) ⟨rfl,rfl,rfl,rfl,trivial⟩ ?_;refine aa.loop (fun m env H=>∃i:Nat,m=l.length-i∧i≤l.length∧env=[(30,I (i:Int)),(29,I ((bS l).length:Int)),(28, .d (.sl 3 (bS l))),(0, .ptr 0 0)]∧H=WO (w++gU true dc++(l.take i).flatMap cW)) l.length
        ⟨0,rfl,by omega,rfl,by rw[←e0];unfold gU;rw[if_pos rfl,if_neg h128]⟩ ?_
      rintro m env H ⟨i,rfl,hi,rfl,rfl⟩;obtain⟨b1,b2⟩:=bl i;rcases Nat.lt_or_ge i l.length with hlt|hge
      · obtain ⟨e, hee⟩ : ∃ e, l[i]? = some e := ⟨_, List.getElem?_eq_getElem hlt⟩
        have g1:=fun (ti:TI) (ha:ti.agg=true) (hs:ti.size=3)=>qP ti ha hs l i e hee
        have hR:=he e (List.mem_of_getElem? hee);obtain⟨r1,r2⟩:=ql e hR;have rc:=A7 e;rw[hR]at rc;have ad:=rC (gl:=gtc) (w++gU true dc++(l.take i).flatMap cW) (cW e) b1 r1 (by omega);rw[List.append_assoc (w++gU true dc),←uH l i e hee]at ad;repeat' (first|refine aa.aF ?_|refine aa.q'b true ?_|refine aa.aj [0,1] (ad) ?_|refine aa.av (rc) ?_|refine aa.ah ?_|refine aa.ae ?_|refine aa.aB ?_|refine aa.ak ?_|refine aa.aH ?_|refine aa.aD ?_|(apply aa.oM;(iterate 6 rfl);exact (g1 _ rfl rfl))|intro _|refine aa.aA ?_|refine aa.aJ ?_)
        all_goals first
          | (refine aa.drop 2 (env' := [(30, I ((i + 1 : Nat) : Int)), (29, I ((bS l).length : Int)), (28, .d (.sl 3 (bS l))), (0, .ptr 0 0)]) (Nat.le_refl _) (by simp) (fun o ho => gb (m := 2) rfl o ho) ⟨rfl, rfl, rfl, rfl, trivial⟩ (ja 2 _ rfl) ?_
             exact aa.round [(30,I ((i+1:Nat):Int)),(29,I ((bS l).length:Int)),(28, .d (.sl 3 (bS l))),(0, .ptr 0 0)] (l.length-(i+1)) (by omega) ⟨rfl,rfl,rfl,rfl,trivial⟩ ⟨i+1,rfl,hlt,rfl,rfl⟩)
      · obtain rfl : i = l.length := by omega
        rw[List.take_length];repeat' (first|refine aa.aF ?_|refine aa.bh true ?_|refine aa.ah ?_|refine aa.ae ?_|refine aa.aB ?_|refine aa.ak ?_|refine aa.aH ?_|refine aa.aD ?_|intro _|refine aa.aA ?_|refine aa.aJ ?_)
        all_goals exact Tn
end Bl
namespace Bl
open Go Bt Tc Wr
attribute [local irreducible] aa ACalls
variable {gl:List (Nat×List D)}
attribute [local irreducible] bS rS evR lev cW bU
attribute [local irreducible] eB
end Bl
end Go.Proofs.YtbpednchkndocaaGreatDoor.Av
