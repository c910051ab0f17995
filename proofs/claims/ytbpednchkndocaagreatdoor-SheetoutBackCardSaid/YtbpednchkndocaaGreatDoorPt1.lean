/- Events: what may be one; the levels of a block. The levels of a block: the walks of both Levels. The levels of a block: the walk of the reference's Levels. The reference's words of a text. -/
import Derived.Test.YtbpednchkndocaaGreatDoorPd
import Derived.Test.YtbpednchkndocaaGreatDoorPn
set_option linter.unusedVariables false
set_option linter.unusedSimpArgs false
set_option maxRecDepth 100000
set_option maxHeartbeats 64000000
namespace Go.Proofs.YtbpednchkndocaaGreatDoor.Av
namespace Tc
open Go Bt
attribute [local irreducible] aa ACalls
variable {gl:List (Nat×List D)}
def rV(m:Nat):Env→Bool
 |[]=>true
 |(_,v)::r=>v.bnd m&&rV m r
theorem ja(m:Nat):∀(env:Env),rV m env=true→∀i,(env.get i).bnd m=true
 |[],_,i=>rfl
 |(j,v)::r,h,i=>by
  simp only[rV,Bool.and_eq_true]at h;simp only[Env.get];cases Nat.beq j i with
  |true=>exact h.1
  |false=>exact ja m r h.2 i
structure Ev where
 last:Bool
 run:Int
 level:Int
abbrev evD(e:Ev):D := .agg [.bool e.last, .int .i64 e.run, .int .i64 e.level]
def bS(l:List Ev):List D:=l.map evD
def evR(e:Ev):Bool:=decide ((0≤e.run∧e.run≤63)∧e.level≠0 ∧ -127≤e.level∧e.level≤127)
def Br(e:Ev):Prop:=(-9223372036854775808≤e.run∧e.run≤9223372036854775807)∧(-9223372036854775808≤e.level∧e.level≤9223372036854775807)
theorem fS(l:List Ev):(bS l).length=l.length:=by simp[bS]
theorem KI(l:List Ev)(i:Nat)(e:Ev)(h:l[i]?=some e):(bS l).getD i .top=evD e:=by simp[bS,List.getD,h]
theorem qP(ti:TI)(ha:ti.agg=true)(hs:ti.size=3)(l:List Ev)(i:Nat)(e:Ev)(h:l[i]?=some e):kC ti ((bS l).getD i .top).cells 0=some (evD e):=by
 rw[KI l i e h];unfold kC evD;rw[ha,hs];rfl
theorem qH(e:Ev):ACalls (cxg gl) 248 [.d (evD e)] [] (fun r H=>r=B (evR e)∧H=[]):=by
 obtain⟨la,ru,le⟩:=e;by_cases h:(0≤ru∧ru≤63)∧le≠0 ∧ -127≤le∧le≤127
 ·rw[show evR ⟨la,ru,le⟩=true from decide_eq_true h];refine ACalls.en Tryz.func248 Tryz.ntmps248 ?_;repeat' (first|refine aa.aF ?_|refine aa.bh true ?_|refine aa.aM ?_|refine aa.au ?_|refine aa.cf ?_|refine aa.fI ?_|refine aa.aC ?_|intro _|(apply aa.gD;rfl;rfl;rfl)|(apply aa.gS;rfl;rfl;rfl)|refine aa.aA ?_)
  all_goals first|exact⟨rfl,rfl⟩|omega|exact⟨congrArg B (by simp only[Bool.true_and,Bool.not_eq_true',Bool.not_eq_false',decide_eq_true_eq,decide_eq_false_iff_not]at *;omega),rfl⟩
 ·rw[show evR ⟨la,ru,le⟩=false from decide_eq_false h];refine ACalls.en Tryz.func248 Tryz.ntmps248 ?_;repeat' (first|refine aa.aF ?_|refine aa.bh true ?_|refine aa.aM ?_|refine aa.au ?_|refine aa.cf ?_|refine aa.fI ?_|refine aa.aC ?_|intro _|(apply aa.gD;rfl;rfl;rfl)|(apply aa.gS;rfl;rfl;rfl)|refine aa.aA ?_)
  all_goals first|exact⟨rfl,rfl⟩|omega|exact⟨congrArg B (by simp only[Bool.true_and,Bool.not_eq_true',Bool.not_eq_false',decide_eq_true_eq,decide_eq_false_iff_not]at *;omega),rfl⟩
def rS:List Ev→Nat→List Int→Option (List Int)
 |[],_,out=>some out
 |e::r,a,out=>if evR e=true∧e.last=r.isEmpty∧a+e.run.toNat<64 then rS r (a+e.run.toNat+1) (out.set (a+e.run.toNat) e.level) else none
def z64:List Int:=List.replicate 64 0
def lev(l:List Ev)(a:Nat):Option (List Int):=rS l a z64
def Kb(l:List Ev)(a:Nat):AV:=match lev l a with|some out => .cH [.d (.agg (out.map (.int .i64))),I 0]|none => .cH [.d (.agg (z64.map (.int .i64))),I 7]
end Tc
namespace Tc
open Go Bt
attribute [local irreducible] aa ACalls
variable {gl:List (Nat×List D)}
theorem nU(e:Ev)(r:List Ev)(a:Nat)(out:List Int):rS (e::r) a out=if evR e=true∧e.last=r.isEmpty∧a+e.run.toNat<64 then rS r (a+e.run.toNat+1) (out.set (a+e.run.toNat) e.level) else none:=rfl
theorem xC{e:Ev}(h:evR e=true):(0≤e.run∧e.run≤63)∧e.level≠0 ∧ -127≤e.level∧e.level≤127:=of_decide_eq_true h
theorem Er{α:Type}(l:List α)(i:Nat)(h:i<l.length):decide ((i:Int)=(l.length:Int)-1)=(l.drop (i+1)).isEmpty:=by
 by_cases h1:i+1=l.length
 ·rw[decide_eq_true (by omega),List.drop_of_length_le (by omega)];rfl
 ·rw[decide_eq_false (by omega)];cases h2:(l.drop (i+1)).isEmpty with
  |false=>rfl
  |true =>
   have:=congrArg List.length (List.isEmpty_iff.1 h2);rw[List.length_drop,List.length_nil]at this;omega
theorem nT{l:List Ev}{a:Nat}(h:lev l a=none):Kb l a = .cH [.d (.agg (z64.map (.int .i64))),I 7]:=by unfold Kb;rw[h]
theorem uE{l:List Ev}{a:Nat}{out:List Int}(h:lev l a=some out):Kb l a = .cH [.d (.agg (out.map (.int .i64))),I 0]:=by unfold Kb;rw[h]
theorem J6(out:List Int)(i:Nat)(v:Int):(out.map fun n=>I n).set i (I v)=(out.set i v).map fun n=>I n:=by rw[List.map_set]
theorem xn(a:Nat)(out:List Int):rS [] a out=some out:=rfl
theorem uP(m:Nat):∀l:List Int,AV.dF m (l.map fun n=>I n)=true
 |[]=>rfl
 |n::r=>by simp only[List.map_cons,AV.dF,uP m r];rfl
theorem PR(out:List Int)(h:out.length=64):∃f:Nat→Int,out=(List.range 64).map f :=
 ⟨fun k=>out.getD k 0,by
  apply List.ext_getElem?;intro i;by_cases hi:i<64
  ·simp[List.getD,hi,show i<out.length by omega]
  ·rw[List.getElem?_eq_none (by omega),List.getElem?_eq_none (by simp;omega)]⟩
attribute [local irreducible] bS rS evR
theorem Ka (l : List Ev) (a : Nat) (ha : a ≤ 1) (hl : l.length ≤ 1000000) (hok : ∀ e ∈ l, Br e) : ACalls (cxg gl) 246 [.d (.sl 3 (bS l)), I a] [] (fun r H => r = Kb l a ∧ H = []) := by
  have hln:=fS l;have hz:List.map AV.d (List.replicate 64 (D.int IntKind.i64 0))=z64.map fun n=>I n:=rfl
  have hzl:(z64.map fun n=>I n).length=64:=rfl;have hre:lev l a=rS (l.drop 0) a z64:=rfl;rcases (show a=0∨a=1 by omega)with rfl|rfl;all_goals
    refine ACalls.en Tryz.func246 Tryz.ntmps246 ?_;repeat (first|refine aa.aF ?_|refine aa.bh true ?_|refine aa.ah ?_|refine aa.ae ?_|refine aa.aB ?_|refine aa.ak ?_|refine aa.aH ?_|refine aa.aD ?_|refine aa.bG ?_|refine aa.au ?_|refine aa.fI ?_|refine aa.eG ?_|refine aa.aC ?_)
    rw[hz];refine aa.weak (env':=[(20,I ((0:Nat):Int)),(19,I ((bS l).length:Int)),(18, .d (.sl 3 (bS l))),(7,I ((_:Nat):Int)),(6, .ptr 1 0),(4, .ptr 0 0),(0, .d (.sl 3 (bS l)))]) ⟨rfl,rfl,rfl,rfl,rfl,rfl,rfl,trivial⟩ ?_
    refine aa.loop (fun m env H=>∃(i b:Nat) (out:List Int),m=l.length-i∧i≤l.length∧b≤64∧out.length=64∧rS (l.drop i) b out=lev l _ ∧
      env=[(20,I (i:Int)),(19,I ((bS l).length:Int)),(18, .d (.sl 3 (bS l))),(7,I (b:Int)),(6, .ptr 1 0),(4, .ptr 0 0),(0, .d (.sl 3 (bS l)))]∧H=[.cells (z64.map fun n=>I n), .cells (out.map fun n=>I n)]) l.length
      ⟨0,_,z64,by omega,by omega,by decide,rfl,hre.symm,rfl,rfl⟩ ?_
    rintro m env H ⟨i,b,out,rfl,hi,hb,ho,hlv,rfl,rfl⟩;have hol:(out.map fun n=>I n).length=64:=by rw[List.length_map,ho]
    rcases Nat.lt_or_ge i l.length with hlt|hge
    · obtain ⟨e, he⟩ : ∃ e, l[i]? = some e := ⟨_, List.getElem?_eq_getElem hlt⟩
      have g1:=fun (ti:TI) (ha:ti.agg=true) (hs:ti.size=3)=>qP ti ha hs l i e he
      have rc:=qH (gl:=gl) e;have hle:=Er l i hlt;rw[tX l i e he,nU]at hlv;rw[←hln]at hle;cases hR:evR e with
      | false =>
        rw[hR]at rc hlv;rw[if_neg (fun h=>by cases h.1)]at hlv;repeat' (first|refine aa.aF ?_|refine aa.q'b true ?_|refine aa.av (rc) ?_|refine aa.ah ?_|refine aa.ae ?_|refine aa.aB ?_|refine aa.ak ?_|refine aa.aH ?_|refine aa.aD ?_|refine aa.bG ?_|refine aa.au ?_|refine aa.fI ?_|refine aa.eG ?_|refine aa.aC ?_|(apply aa.oM;(iterate 6 rfl);exact (g1 _ rfl rfl))|intro _|refine aa.aA ?_|refine aa.aP ?_|refine aa.aJ ?_)
        all_goals first|exact⟨by rw[nT hlv.symm];rfl,rfl⟩
      | true =>
        rw[hR]at rc;obtain⟨⟨b1,b2⟩,b3⟩:=xC hR;by_cases hL:e.last=(l.drop (i+1)).isEmpty
        · have k1 : (!decide (e.last = decide ((i : Int) = ((bS l).length : Int) - 1))) = false := by rw [hle, decide_eq_true hL]; rfl
          by_cases h64:b+e.run.toNat<64
          · rw [if_pos ⟨hR, hL, h64⟩] at hlv
            have hset:(out.map fun n=>I n).set (0+((b:Int)+e.run).toNat*1) (I e.level)=(out.set (b+e.run.toNat) e.level).map fun n=>I n:=by
              rw[show 0+((b:Int)+e.run).toNat*1=b+e.run.toNat by omega,J6]
            repeat' (first|refine aa.aF ?_|refine aa.q'b true ?_|refine aa.av (rc) ?_|refine aa.ah ?_|refine aa.ae ?_|refine aa.aB ?_|refine aa.ak ?_|refine aa.aH ?_|refine aa.aD ?_|refine aa.bG ?_|refine aa.au ?_|(apply aa.gBT;rfl;rfl;rfl;first|(simp only[bT];omega)|(exact k1))|(apply aa.gBF;rfl;rfl;rfl;first|(simp only[bF];omega)|exact ndF rfl|(exact k1))|refine aa.aC ?_|(apply aa.oM;(iterate 6 rfl);exact (g1 _ rfl rfl))|(apply aa.Pj;(iterate 10 rfl);(rw[hol];show 0+((b:Int)+e.run).toNat*1<64;omega);simp only[List.set_cons_succ,List.set_cons_zero])|intro _|refine aa.aA ?_|refine aa.aP ?_|refine aa.aJ ?_)
            all_goals first
              | (refine aa.drop 2 (env' := [(20, I ((i + 1 : Nat) : Int)), (19, I ((bS l).length : Int)), (18, .d (.sl 3 (bS l))), (7, I ((b + e.run.toNat + 1 : Nat) : Int)), (6, .ptr 1 0), (4, .ptr 0 0), (0, .d (.sl 3 (bS l)))]) (Nat.zero_le _) (by simp) (fun o ho => ?_) ⟨rfl, rfl, rfl, congrArg I (by omega), rfl, rfl, rfl, trivial⟩ (ja 2 _ rfl) ?_
                 · have ho' : o = .cells (z64.map fun n => I n) ∨ o = .cells ((out.set (b + e.run.toNat) e.level).map fun n => I n) := by
                     rw[←hset];simpa using ho
                   rcases ho' with rfl|rfl
                   · exact uP 2 z64
                   · exact uP 2 _
                 · exact aa.round [(20,I ((i+1:Nat):Int)),(19,I ((bS l).length:Int)),(18, .d (.sl 3 (bS l))),(7,I ((b+e.run.toNat+1:Nat):Int)),(6, .ptr 1 0),(4, .ptr 0 0),(0, .d (.sl 3 (bS l)))] (l.length-(i+1)) (by omega) ⟨rfl,rfl,rfl,rfl,rfl,rfl,rfl,trivial⟩ ⟨i+1,b+e.run.toNat+1,out.set (b+e.run.toNat) e.level,rfl,hlt,by omega,by rw[List.length_set,ho],hlv,rfl,by rw[←hset];rfl⟩)
          · rw [if_neg (fun h => h64 h.2.2)] at hlv
            repeat' (first|refine aa.aF ?_|refine aa.q'b true ?_|refine aa.av (rc) ?_|refine aa.ah ?_|refine aa.ae ?_|refine aa.aB ?_|refine aa.ak ?_|refine aa.aH ?_|refine aa.aD ?_|refine aa.bG ?_|refine aa.au ?_|(apply aa.gBT;rfl;rfl;rfl;first|(simp only[bT];omega)|(exact k1))|(apply aa.gBF;rfl;rfl;rfl;first|(simp only[bF];omega)|exact ndF rfl|(exact k1))|refine aa.aC ?_|(apply aa.oM;(iterate 6 rfl);exact (g1 _ rfl rfl))|intro _|refine aa.aA ?_|refine aa.aP ?_|refine aa.aJ ?_)
            all_goals first|exact⟨by rw[nT hlv.symm];rfl,rfl⟩
        · have k1 : (!decide (e.last = decide ((i : Int) = ((bS l).length : Int) - 1))) = true := by rw [hle, decide_eq_false hL]; rfl
          rw[if_neg (fun h=>hL h.2.1)]at hlv;repeat' (first|refine aa.aF ?_|refine aa.q'b true ?_|refine aa.av (rc) ?_|refine aa.ah ?_|refine aa.ae ?_|refine aa.aB ?_|refine aa.ak ?_|refine aa.aH ?_|refine aa.aD ?_|refine aa.bG ?_|refine aa.au ?_|(apply aa.gBT;rfl;rfl;rfl;first|(simp only[bT];omega)|(exact k1))|(apply aa.gBF;rfl;rfl;rfl;first|(simp only[bF];omega)|exact ndF rfl|(exact k1))|refine aa.aC ?_|(apply aa.oM;(iterate 6 rfl);exact (g1 _ rfl rfl))|intro _|refine aa.aA ?_|refine aa.aP ?_|refine aa.aJ ?_)
          all_goals first|exact⟨by rw[nT hlv.symm];rfl,rfl⟩
    · obtain rfl : i = l.length := by omega
      rw[List.drop_length]at hlv;obtain⟨f,rfl⟩:=PR out ho;have hlt0:¬((l.length:Int)<((bS l).length:Int)):=by omega
      repeat' (first|refine aa.aF ?_|refine aa.bh true ?_|refine aa.ah ?_|refine aa.ae ?_|refine aa.aB ?_|refine aa.ak ?_|refine aa.aH ?_|refine aa.aD ?_|refine aa.bG ?_|refine aa.au ?_|refine aa.fI ?_|refine aa.eG ?_|refine aa.aC ?_|intro _|refine aa.aA ?_|refine aa.aP ?_|refine aa.aJ ?_)
      have hlv':=hlv.symm.trans (xn _ _);all_goals first|exact⟨by rw[uE hlv'];rfl,rfl⟩
end Tc
namespace Tc
open Go Bt
attribute [local irreducible] aa ACalls
variable {gl:List (Nat×List D)}
attribute [local irreducible] bS rS evR
end Tc
namespace Tc
open Go Bt
attribute [local irreducible] aa ACalls
variable {gl:List (Nat×List D)}
def QZ(ws:List (List UInt8))(c:UInt8):List (List UInt8):=if c=32 then ws++[[]] else ws.set (ws.length-1) (ws.getD (ws.length-1) []++[c])
def wD(s:List UInt8):List (List UInt8):=s.foldl QZ [[]]
attribute [local irreducible] kr
end Tc
end Go.Proofs.YtbpednchkndocaaGreatDoor.Av
