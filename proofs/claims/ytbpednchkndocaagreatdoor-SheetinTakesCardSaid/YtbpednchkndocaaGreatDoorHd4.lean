/- Heads of sheets: the document's answer, walked. -/
import Derived.Test.YtbpednchkndocaaGreatDoorPy5
set_option linter.unusedVariables false
set_option linter.unusedSimpArgs false
set_option maxRecDepth 100000
set_option maxHeartbeats 64000000
namespace Go.Proofs.YtbpednchkndocaaGreatDoor.Av
namespace Si
open Go Bt Sh
attribute [local irreducible] aa ACalls aO aC bB aR
variable {gl:List (Nat×List D)}
def vlD (s:List UInt8) (p:Nat) (i:Nat):List D:=(List.range i).map fun k=>Nn (cN s p (k+1)).1
theorem Im (s:List UInt8) (p i:Nat):(vlD s p i).length=i:=by simp[vlD]
theorem Io (s:List UInt8) (p i:Nat):vlD s p (i+1)=vlD s p i++[Nn (cN s p (i+1)).1]:=by simp[vlD,List.range_succ]
theorem Gf (s:List UInt8) (p i:Nat):cN s p (i+1)=ptX s (wd i) (ck i) (cN s p i).2:=rfl
theorem HT (i:Nat) (V:Int):(i=1→(V=2∧ck i V=0)∨(V≠2∧ck i V=5))∧(i=3→(fN V≠0∧ck i V=0)∨(fN V=0∧ck i V=5))∧(i=5∨i=7→(V=0∧ck i V=0)∨(V≠0∧ck i V=6)) ∧
  (i=6→(V=0∧ck i V=9)∨(V≠0∧ck i V=0))∧(i=0∨i=2∨i=4→ck i V=0):=by
 have u:∀a b:Int,(V=a∧ckU a b V=0)∨(V≠a∧ckU a b V=b):=fun a b=>by
  unfold ckU
  by_cases h:V=a
  ·rw[if_pos h];exact .inl ⟨h,rfl⟩
  ·rw[if_neg h];exact .inr ⟨h,rfl⟩
 refine⟨?_,?_,?_,?_,?_⟩
 ·rintro rfl;exact u 2 5
 ·rintro rfl
  show (fN V≠0∧ckF V=0)∨(fN V=0∧ckF V=5)
  unfold ckF
  rcases ND V with⟨h1,h2⟩|⟨h1,h2⟩
  ·rw[h2];exact .inr ⟨h1,rfl⟩
  ·rw[h2];exact .inl ⟨h1,rfl⟩
 ·rintro (rfl|rfl)<;>exact u 0 6
 ·rintro rfl
  show (V=0∧ckQ V=9)∨(V≠0∧ckQ V=0)
  unfold ckQ
  by_cases h:V=0
  ·rw[if_pos h];exact .inl ⟨h,rfl⟩
  ·rw[if_neg h];exact .inr ⟨h,rfl⟩
 ·rintro (rfl|rfl|rfl)<;>rfl
theorem KM (i:Nat) (h:i<8):∃W:Int,W=(wd i:Nat)∧((i=0∧wd i=8∧W=8)∨(i=1∧wd i=2∧W=2)∨(i=2∧wd i=3∧W=3)∨(i=3∧wd i=3∧W=3)∨(i=4∧wd i=1∧W=1)∨(i=5∧wd i=4∧W=4)∨(i=6∧wd i=5∧W=5)∨(i=7∧wd i=1∧W=1)):=by
 have:i=0∨i=1∨i=2∨i=3∨i=4∨i=5∨i=6∨i=7:=by omega
 rcases this with rfl|rfl|rfl|rfl|rfl|rfl|rfl|rfl<;>exact⟨_,rfl,by decide⟩
theorem Kc (s:List UInt8) (p:Nat):vlD s p 0=[]:=rfl
abbrev N9 (v:Int):Prop := -9223372036854775808≤v∧v≤9223372036854775807
theorem KL (i:Nat) (h:i<8):([Nn 8,Nn 2,Nn 3,Nn 3,Nn 1,Nn 4,Nn 5,Nn 1]:List D).getD (i:Int).toNat .top=Nn ((wd i:Nat):Int):=by
 have:i=0∨i=1∨i=2∨i=3∨i=4∨i=5∨i=6∨i=7:=by omega
 rcases this with rfl|rfl|rfl|rfl|rfl|rfl|rfl|rfl<;>rfl
theorem MN (s:List UInt8) (p:Nat):vlD s p 8=[Nn (cN s p 1).1,Nn (cN s p 2).1,Nn (cN s p 3).1,Nn (cN s p 4).1,Nn (cN s p 5).1,Nn (cN s p 6).1,Nn (cN s p 7).1,Nn (cN s p 8).1]:=rfl
theorem Fy (l:List Int) (v:Int):suD (l++[v])=suD l++[Nn v]:=by simp[suD]
theorem Ly {s:List UInt8} {q:Nat} (h:q+1≤8*s.length):ptX s 1 ckN (0,q)=(dz s (q:Int),0,q+1):=by
 have e:nB ((ak s q).take 1)=dz s (q:Int):=by
  rw[fO s q (by omega)]
  simp[nB]
 unfold ptX
 rw[if_pos rfl,if_neg (by omega),e];rfl
theorem Kj {s:List UInt8} {n q:Nat} {chk:Int→Int} (h:8*s.length<q+n):ptX s n chk (0,q)=(0,2,q):=by
 unfold ptX
 rw[if_pos rfl,if_pos h]
theorem Lx {s:List UInt8} {n q:Nat} (h:¬8*s.length<q+n):ptX s n ckN (0,q)=(nB ((ak s q).take n),0,q+n):=by
 unfold ptX
 rw[if_pos rfl,if_neg h];rfl
abbrev mF:aM := .cells [I 0,I 0,I 0,B false,I 0, .d .aY, .d .aY,I 0]
abbrev wdD:D := .sl 1 [Nn 8,Nn 2,Nn 3,Nn 3,Nn 1,Nn 4,Nn 5,Nn 1]
attribute [local irreducible] aS ak suD vlD cN spX Mk.atB ck wd
theorem Ea (s:List UInt8) (p:Nat) (hs:s.length≤1000000) (hp:p≤8*s.length) :
    ACalls (cxg gl) 57 [S (aS s),I (p:Int)] [] (fun r H=>r = .bK [.d (hdD (hdT s p).1),I ((hdT s p).2.2:Int),I (hdT s p).2.1]∧H=[]):=by
  have hl:=cZ s
  have ra:=Mk.F8 (gl:=gl) s p (by omega) hp
  have h0:cN s p 0=(0,Mk.mkM s p):=by unfold cN;rfl
  have er:=jQ (s:=s) (p:=p) (k:=0) (by decide)
  rw[h0]at er
  have hok:=Mk.yL s p
  unfold Mk.mkM at h0 er
  generalize Mk.atB s p=A at *
  obtain⟨v,e⟩:=A
  simp only at ra h0 er hok
  by_cases h8:p%8=0
  · rw[if_pos h8]at h0 er
    have h8':(p:Int)%8=0:=by omega
    by_cases he:e=0
    · subst he
      rw[if_pos rfl]at h0 er
      by_cases hv:v=0
      · subst hv
        rw[if_pos rfl]at h0
        have hp22:=hok rfl
        clear er hok
        refine ACalls.en Tryz.func57 Tryz.ntmps57 ?_
        repeat (first|refine aa.aD ?_|refine aa.bh true ?_|refine aa.ah (ra) ?_|refine aa.ae ?_|refine aa.af ?_|refine aa.au ?_|refine aa.ai ?_|refine aa.aG ?_|refine aa.aA ?_|refine aa.aj ?_|refine aa.bL ?_|refine aa.bq ?_|refine aa.aK ?_|refine aa.bD ?_|refine aa.df ?_|refine aa.dN ?_|refine aa.aB ?_|refine aa.aF ?_)
        (apply aa.yn 12 3 1;rfl;simp only[List.length_cons,List.length_nil,Nat.reduceAdd,List.cons_append,List.nil_append])
        (apply aa.oJ 12;rfl;rfl;rfl;simp only[List.set_cons_zero,List.set_cons_succ])
        refine aa.weak (env':=[(13,I ((0:Nat):Int)),(12, .own 1 [] 2),(11, .d wdD),(10,I ((p:Int)+22)),(7, .ptr 1 0),(4, .ptr 0 0),(1,I (p:Int)),(0,S (aS s))]) ⟨rfl,rfl,rfl,rfl,rfl,rfl,rfl,rfl,trivial⟩ ?_
        refine aa.loop (fun m env H=>∃i:Nat,m=8 - i∧i≤8∧(cN s p i).2.1=0∧env=[(13,I (i:Int)),(12, .own 1 (vlD s p i) 2),(11, .d wdD),(10,I ((cN s p i).2.2:Int)),(7, .ptr 1 0),(4, .ptr 0 0),(1,I (p:Int)),(0,S (aS s))]∧H=[mF,mF, .front 3 1 (vlD s p i).length]) 8
          ⟨0,rfl,by decide,by rw[h0],by rw[h0,Kc];rfl,by rw[Kc]⟩ ?_
        rintro m env H ⟨i,rfl,hi,hz,rfl,rfl⟩
        rcases Nat.lt_or_ge i 8 with hlt|hge
        · have er1:=jQ (s:=s) (p:=p) (k:=i+1) (by omega)
          have st:=Gf s p i
          have hq:=(uM s p hp i).1
          have va:=Io s p i
          have vl:=Im s p i
          generalize hX:cN s p i=X at *
          generalize hY:cN s p (i+1)=Y at *
          obtain⟨y,e,q⟩:=X
          simp only at hz hq
          subst hz
          obtain⟨W,hW,hcase⟩:=KM i hlt
          have nw:=fun h=>Mk.tH (gl:=gl) s q (wd i) (by omega) h
          unfold ptX at st
          simp only[if_true]at st
          have w3:List.drop (q:Int).toNat (List.take ((q:Int)+W).toNat (aS s))=((aS s).take (q+wd i)).drop q:=by
            rw[show (q:Int).toNat=q by omega,show ((q:Int)+W).toNat=q+wd i by omega]
          rw[←w3]at nw
          have hck:=HT i (nB ((ak s q).take (wd i)))
          generalize hV:nB ((ak s q).take (wd i))=V at *
          generalize ck i V=E at *
          have wg:=KL i hlt
          rw[←hW]at wg
          by_cases hsh:8*s.length<q+wd i
          · rw[if_pos hsh]at st
            subst st
            rw[er1 (by simp)]
            simp only
            repeat' (first|refine aa.aD ?_|(apply aa.opx;(apply dh;(iterate 7 rfl);(first|omega|((simp only[List.length_cons,List.length_nil];omega)));exact wg);rfl;rfl;rfl)|(apply aa.q true;rfl;rfl;rfl;rfl;first|exact True.intro|omega|(simp only[tn,Int.reduceToNat];omega)|((simp only[List.length_cons,List.length_nil];omega)))|refine aa.ae ?_|refine aa.af ?_|refine aa.au ?_|refine aa.ai ?_|refine aa.aG ?_|refine aa.aA ?_|refine aa.aj ?_|refine aa.bL ?_|refine aa.bq ?_|refine aa.aK ?_|refine aa.bD ?_|refine aa.df ?_|refine aa.dN ?_|refine aa.aB ?_|refine aa.aF ?_|(apply aa.kU (.bK [.d (hdD hd0),_,_]);rfl;exact aT.bK ⟨aT.d jr,aT.refl _,aT.refl _,trivial⟩;rfl;rfl;rfl)|intro _|refine aa.aP ?_|refine aa.aI ?_)
            all_goals first|exact⟨rfl,rfl⟩|omega
          · rw[if_neg hsh]at st
            have nw1:=nw (by omega)
            have hVb:=jd (wd i) _ (take_len s q (wd i) (by omega)) (dQ s q (wd i))
            rw[hV]at hVb
            have v64:N9 V:=by
              have:(2:Int)^wd i≤256:=by
                rcases hcase with⟨_,hw,_⟩|⟨_,hw,_⟩|⟨_,hw,_⟩|⟨_,hw,_⟩|⟨_,hw,_⟩|⟨_,hw,_⟩|⟨_,hw,_⟩|⟨_,hw,_⟩<;>rw[hw]<;>decide
              unfold N9;omega
            have mn:=xz (gl:=gl) V v64
            generalize hM:fN V=M at *
            subst st
            simp only at va er1
            by_cases hE:E=0
            · subst hE
              have hqW:((q+wd i:Nat):Int)=(q:Int)+W:=by omega
              have henv:[(13,I ((i+1:Nat):Int)),(12,AV.own 1 (vlD s p i++[Nn V]) 2),(11, .d wdD),(10,I ((q:Int)+W)),(7, .ptr 1 0),(4, .ptr 0 0),(1,I (p:Int)),(0,S (aS s))]=[(13,I ((i+1:Nat):Int)),(12, .own 1 (vlD s p (i+1)) 2),(11, .d wdD),(10,I ((cN s p (i+1)).2.2:Int)),(7, .ptr 1 0),(4, .ptr 0 0),(1,I (p:Int)),(0,S (aS s))]:=by
                rw[va,hY]
                simp only
                rw[hqW]
              have hfr:[mF,mF,aM.front 3 1 (vlD s p i++[Nn V]).length]=[mF,mF, .front 3 1 (vlD s p (i+1)).length]:=by rw[va]
              have hz':(cN s p (i+1)).2.1=0:=by rw[hY]
              have hm':8 - (i+1)<8 - i:=by omega
              simp only
              rcases hcase with⟨hi0,hw,hW0⟩|⟨hi0,hw,hW0⟩|⟨hi0,hw,hW0⟩|⟨hi0,hw,hW0⟩|⟨hi0,hw,hW0⟩|⟨hi0,hw,hW0⟩|⟨hi0,hw,hW0⟩|⟨hi0,hw,hW0⟩
              all_goals
                repeat' (first|refine aa.aD ?_|(apply aa.opx;(apply dh;(iterate 7 rfl);(first|omega|(rw[vl];omega)|((simp only[List.length_cons,List.length_nil];omega)));exact wg);rfl;rfl;rfl)|(apply aa.append;(iterate 11 rfl);(first|rfl|(simp only[List.length_append,List.length_map,List.length_cons,List.length_nil];omega));(first|(simp only[List.length_append,List.length_map,List.length_cons,List.length_nil];omega)|(rw[vl];omega)|((simp only[List.length_cons,List.length_nil];omega)));simp only[List.set_cons_zero,List.set_cons_succ])|(apply aa.q true;rfl;rfl;rfl;rfl;first|exact True.intro|omega|(simp only[tn,Int.reduceToNat];omega)|(rw[vl];omega)|((simp only[List.length_cons,List.length_nil];omega)))|refine aa.ah (nw1) ?_|refine aa.ah (mn) ?_|refine aa.ae ?_|refine aa.af ?_|refine aa.au ?_|refine aa.ai ?_|refine aa.aG ?_|refine aa.aA ?_|refine aa.aj ?_|refine aa.bL ?_|refine aa.bq ?_|refine aa.aK ?_|refine aa.bD ?_|refine aa.df ?_|refine aa.dN ?_|refine aa.aB ?_|refine aa.aF ?_|intro _|refine aa.aP ?_|refine aa.aI ?_)
                all_goals first
                  |exact aa.jk 3 [(13,I ((i+1:Nat):Int)),(12, .own 1 (vlD s p i++[Nn V]) 2),(11, .d wdD),(10,I ((q:Int)+W)),(7, .ptr 1 0),(4, .ptr 0 0),(1,I (p:Int)),(0,S (aS s))] (8 - (i+1)) hm' rfl rfl rfl rfl ⟨rfl,rfl,rfl,rfl,rfl,rfl,rfl,rfl,trivial⟩ ⟨i+1,rfl,hlt,hz',henv,hfr⟩
                  |omega
            · rw[er1 (by simpa using hE)]
              simp only
              have hEv:E=5∨E=6∨E=9:=by omega
              rcases hEv with rfl|rfl|rfl
              all_goals
                rcases hcase with⟨hi0,hw,hW0⟩|⟨hi0,hw,hW0⟩|⟨hi0,hw,hW0⟩|⟨hi0,hw,hW0⟩|⟨hi0,hw,hW0⟩|⟨hi0,hw,hW0⟩|⟨hi0,hw,hW0⟩|⟨hi0,hw,hW0⟩
                all_goals
                  first
                    |(exfalso;omega;done)
                    | (repeat' (first|refine aa.aD ?_|(apply aa.opx;(apply dh;(iterate 7 rfl);(first|omega|((simp only[List.length_cons,List.length_nil];omega)));exact wg);rfl;rfl;rfl)|(apply aa.q true;rfl;rfl;rfl;rfl;first|exact True.intro|omega|(simp only[tn,Int.reduceToNat];omega)|((simp only[List.length_cons,List.length_nil];omega)))|refine aa.ah (nw1) ?_|refine aa.ah (mn) ?_|refine aa.ae ?_|refine aa.af ?_|refine aa.au ?_|refine aa.ai ?_|refine aa.aG ?_|refine aa.aA ?_|refine aa.aj ?_|refine aa.bL ?_|refine aa.bq ?_|refine aa.aK ?_|refine aa.bD ?_|refine aa.df ?_|refine aa.dN ?_|refine aa.aB ?_|refine aa.aF ?_|(apply aa.kU (.bK [.d (hdD hd0),_,_]);rfl;exact aT.bK ⟨aT.d jr,aT.refl _,aT.refl _,trivial⟩;rfl;rfl;rfl)|intro _|refine aa.aP ?_|refine aa.aI ?_)
                       all_goals first|exact⟨rfl,rfl⟩|omega)
        · obtain rfl:i=8:=by omega
          have hq:=(uM s p hp 8).1
          unfold hdT hdR
          rw[MN]
          generalize cN s p 1=x1 at *
          generalize cN s p 2=x2 at *
          generalize cN s p 3=x3 at *
          generalize cN s p 4=x4 at *
          generalize cN s p 5=x5 at *
          generalize cN s p 6=x6 at *
          generalize cN s p 7=x7 at *
          generalize cN s p 8=x8 at *
          obtain⟨y8,e8,q8⟩:=x8
          simp only at hz hq ⊢
          subst hz
          obtain⟨Z,hZ⟩:∃Z,Z=spX s 9 [] (0,q8):=⟨_,rfl⟩
          rw[←hZ]
          have s0:suD []=[]:=by unfold suD;rfl
          repeat' (first|refine aa.aD ?_|refine aa.bh true ?_|refine aa.ae ?_|refine aa.af ?_|refine aa.au ?_|refine aa.ai ?_|refine aa.aG ?_|refine aa.aA ?_|refine aa.aj ?_|refine aa.bL ?_|refine aa.bq ?_|refine aa.aK ?_|refine aa.bD ?_|refine aa.df ?_|refine aa.dN ?_|refine aa.aB ?_|refine aa.aF ?_|intro _|refine aa.aP ?_|refine aa.aI ?_)
          (apply aa.yn 15 3 1;rfl;simp only[List.length_cons,List.length_nil,Nat.reduceAdd,List.cons_append,List.nil_append])
          (apply aa.oJ 15;rfl;rfl;rfl;simp only[List.set_cons_zero,List.set_cons_succ])
          refine aa.weak (env':=[(15, .own 1 [] 3),(12, .own 1 [Nn x1.1,Nn x2.1,Nn x3.1,Nn x4.1,Nn x5.1,Nn x6.1,Nn x7.1,Nn y8] 2),(10,I (q8:Int)),(7, .ptr 1 0),(4, .ptr 0 0),(1,I (p:Int)),(0,S (aS s))]) ⟨rfl,rfl,rfl,rfl,rfl,rfl,rfl,trivial⟩ ?_
          refine aa.loop (fun m env H=>∃(l:List Int) (q:Nat),m=9 - l.length∧l.length≤8∧q≤8*s.length∧Z=spX s (9 - l.length) l (0,q) ∧
              env=[(15, .own 1 (suD l) 3),(12, .own 1 [Nn x1.1,Nn x2.1,Nn x3.1,Nn x4.1,Nn x5.1,Nn x6.1,Nn x7.1,Nn y8] 2),(10,I (q:Int)),(7, .ptr 1 0),(4, .ptr 0 0),(1,I (p:Int)),(0,S (aS s))] ∧
              H=[mF,mF, .front 3 1 [Nn x1.1,Nn x2.1,Nn x3.1,Nn x4.1,Nn x5.1,Nn x6.1,Nn x7.1,Nn y8].length, .front 3 1 (suD l).length]) 9
            ⟨[],q8,rfl,by decide,hq,hZ,by rw[s0],by rw[s0];rfl⟩ ?_
          rintro m env H ⟨l,q,rfl,hl8,hq',hsp,rfl,rfl⟩
          obtain⟨f,hf⟩:∃f,9 - l.length=f+1:=⟨8 - l.length,by omega⟩
          rw[hf,spX]at hsp
          have hsl:=tu l
          by_cases h1:8*s.length<q+1
          · rw[Kj h1,if_neg (by simp)]at hsp
            rw[hsp]
            simp only[if_neg (show ¬(2:Int)=0 by decide)]
            repeat' (first|refine aa.aD ?_|refine aa.bh true ?_|refine aa.ae ?_|refine aa.af ?_|refine aa.au ?_|refine aa.ai ?_|refine aa.aG ?_|refine aa.aA ?_|refine aa.aj ?_|refine aa.bL ?_|refine aa.bq ?_|refine aa.aK ?_|refine aa.bD ?_|refine aa.df ?_|refine aa.dN ?_|refine aa.aB ?_|refine aa.aF ?_|(apply aa.kU (.bK [.d (hdD hd0),_,_]);rfl;exact aT.bK ⟨aT.d jr,aT.refl _,aT.refl _,trivial⟩;rfl;rfl;rfl)|intro _|refine aa.aP ?_|refine aa.aI ?_)
            all_goals first|exact⟨rfl,rfl⟩|omega
          · obtain⟨b1,b2⟩:=Mk.uy s q (by omega)
            rw[Ly (by omega)]at hsp
            have e1:((q:Int)+1 - 1).toNat=(q:Int).toNat:=by omega
            rw[←e1]at b1
            generalize dz s (q:Int)=b at *
            rcases b2 with rfl|rfl
            · rw[if_neg (by simp)]at hsp
              rw[hsp]
              simp only[if_true]
              have gg:∀(k:Int) (v:Int),([Nn x1.1,Nn x2.1,Nn x3.1,Nn x4.1,Nn x5.1,Nn x6.1,Nn x7.1,Nn y8]:List D).getD k.toNat .top=Nn v→([Nn x1.1,Nn x2.1,Nn x3.1,Nn x4.1,Nn x5.1,Nn x6.1,Nn x7.1,Nn y8]:List D).getD k.toNat .top=Nn v:=fun _ _ h=>h
              have g0:=gg 0 x1.1 rfl
              have g2:=gg 2 x3.1 rfl
              have g3:=gg 3 x4.1 rfl
              have g4:=gg 4 x5.1 rfl
              have g6:=gg 6 x7.1 rfl
              repeat' (first|refine aa.aD ?_|(apply aC.quiet;rfl;(apply dm.LC;apply aQ.build;rfl;rfl);rfl;rfl;rfl;rfl;kernel_rfl;rfl)|(apply aa.cg [0,1,2,3,4,5,6,7,8,9,10,11,12,13,14,15,16,17,18,19,20,21] 22 19;rfl)|(apply aO.bi;rfl;(apply fS;(iterate 7 rfl);(first|omega|((simp only[List.length_cons,List.length_nil];omega)));exact g0);exact fun _ _ _ h=>h;(iterate 6 rfl);kernel_rfl;kernel_rfl)|(apply aO.bi;rfl;(apply fS;(iterate 7 rfl);(first|omega|((simp only[List.length_cons,List.length_nil];omega)));exact g2);exact fun _ _ _ h=>h;(iterate 6 rfl);kernel_rfl;kernel_rfl)|(apply aO.bi;rfl;(apply fS;(iterate 7 rfl);(first|omega|((simp only[List.length_cons,List.length_nil];omega)));exact g3);exact fun _ _ _ h=>h;(iterate 6 rfl);kernel_rfl;kernel_rfl)|(apply aO.bi;rfl;(apply fS;(iterate 7 rfl);(first|omega|((simp only[List.length_cons,List.length_nil];omega)));exact g4);exact fun _ _ _ h=>h;(iterate 6 rfl);kernel_rfl;kernel_rfl)|(apply aO.bi;rfl;(apply fS;(iterate 7 rfl);(first|omega|((simp only[List.length_cons,List.length_nil];omega)));exact g6);exact fun _ _ _ h=>h;(iterate 6 rfl);kernel_rfl;kernel_rfl)|(apply aO.bi;rfl;(apply aQ.q true;rfl;rfl;first|exact True.intro|omega|((simp only[List.length_cons,List.length_nil];omega)));exact fun _ _ _ h=>h;(iterate 6 rfl);kernel_rfl;kernel_rfl)|(apply aO.load;rfl;rfl;(first|exact True.intro|omega|((simp only[List.length_cons,List.length_nil];omega)));exact fun _ _ _ h=>h;(iterate 6 rfl);kernel_rfl;kernel_rfl)|(apply aO.go)|refine aC.bQ ?_|refine aC.dw ?_|(apply aC.back)|(exact aa.cL)|(apply aa.opx;(apply dh;(iterate 7 rfl);(first|omega|((simp only[List.length_cons,List.length_nil];omega)));exact g0);rfl;rfl;rfl)|(apply aa.opx;(apply dh;(iterate 7 rfl);(first|omega|((simp only[List.length_cons,List.length_nil];omega)));exact g2);rfl;rfl;rfl)|(apply aa.opx;(apply dh;(iterate 7 rfl);(first|omega|((simp only[List.length_cons,List.length_nil];omega)));exact g3);rfl;rfl;rfl)|(apply aa.opx;(apply dh;(iterate 7 rfl);(first|omega|((simp only[List.length_cons,List.length_nil];omega)));exact g4);rfl;rfl;rfl)|(apply aa.opx;(apply dh;(iterate 7 rfl);(first|omega|((simp only[List.length_cons,List.length_nil];omega)));exact g6);rfl;rfl;rfl)|(apply aa.q true;rfl;rfl;rfl;rfl;first|exact True.intro|omega|(simp only[tn,Int.reduceToNat];omega)|((simp only[List.length_cons,List.length_nil];omega)))|refine aa.ae ?_|refine aa.af ?_|refine aa.au ?_|refine aa.ai ?_|refine aa.aG ?_|refine aa.aA ?_|refine aa.aj ?_|refine aa.bL ?_|refine aa.bq ?_|refine aa.aK ?_|refine aa.bD ?_|refine aa.df ?_|refine aa.dN ?_|refine aa.aB ?_|refine aa.aF ?_|intro _|refine aa.aP ?_|refine aa.aI ?_)
              all_goals first|exact⟨rfl,rfl⟩|omega
            · rw[if_pos ⟨rfl,rfl⟩]at hsp
              by_cases h8':l.length=8
              · rw[if_pos h8']at hsp
                rw[hsp]
                simp only[if_neg (show ¬(13:Int)=0 by decide)]
                repeat' (first|refine aa.aD ?_|(apply aa.q true;rfl;rfl;rfl;rfl;first|exact True.intro|omega|(simp only[tn,Int.reduceToNat];omega)|(rw[hsl];omega))|refine aa.ae ?_|refine aa.af ?_|refine aa.au ?_|refine aa.ai ?_|refine aa.aG ?_|refine aa.aA ?_|refine aa.aj ?_|refine aa.bL ?_|refine aa.bq ?_|refine aa.aK ?_|refine aa.bD ?_|refine aa.df ?_|refine aa.dN ?_|refine aa.aB ?_|refine aa.aF ?_|(apply aa.kU (.bK [.d (hdD hd0),_,_]);rfl;exact aT.bK ⟨aT.d jr,aT.refl _,aT.refl _,trivial⟩;rfl;rfl;rfl)|intro _|refine aa.aP ?_|refine aa.aI ?_)
                all_goals first|exact⟨rfl,rfl⟩|omega
              · rw[if_neg h8']at hsp
                simp only at hsp
                by_cases h9:8*s.length<q+1+8
                · rw[Kj h9,Kh (by simp)]at hsp
                  rw[hsp]
                  simp only[if_neg (show ¬(2:Int)=0 by decide)]
                  repeat' (first|refine aa.aD ?_|(apply aa.q true;rfl;rfl;rfl;rfl;first|exact True.intro|omega|(simp only[tn,Int.reduceToNat];omega)|(rw[hsl];omega))|refine aa.ae ?_|refine aa.af ?_|refine aa.au ?_|refine aa.ai ?_|refine aa.aG ?_|refine aa.aA ?_|refine aa.aj ?_|refine aa.bL ?_|refine aa.bq ?_|refine aa.aK ?_|refine aa.bD ?_|refine aa.df ?_|refine aa.dN ?_|refine aa.aB ?_|refine aa.aF ?_|(apply aa.kU (.bK [.d (hdD hd0),_,_]);rfl;exact aT.bK ⟨aT.d jr,aT.refl _,aT.refl _,trivial⟩;rfl;rfl;rfl)|intro _|refine aa.aP ?_|refine aa.aI ?_)
                  all_goals first|exact⟨rfl,rfl⟩|omega
                · rw[Lx h9]at hsp
                  have nw:=Mk.tH (gl:=gl) s (q+1) 8 (by omega) (by omega)
                  have w3:List.drop ((q:Int)+1).toNat (List.take ((q:Int)+1+8).toNat (aS s))=((aS s).take (q+1+8)).drop (q+1):=by
                    rw[show ((q:Int)+1).toNat=q+1 by omega,show ((q:Int)+1+8).toNat=q+1+8 by omega]
                  rw[←w3]at nw
                  generalize nB ((ak s (q+1)).take 8)=u at *
                  have e9:9 - (l++[u]).length=f:=by rw[List.length_append,List.length_singleton];omega
                  have hsp':Z=spX s (9 - (l++[u]).length) (l++[u]) (0,q+1+8):=by rw[e9];exact hsp
                  have hl':(l++[u]).length≤8:=by rw[List.length_append,List.length_singleton];omega
                  have hm':9 - (l++[u]).length<9 - l.length:=by omega
                  have sa:=Fy l u
                  repeat' (first|refine aa.aD ?_|(apply aa.append;(iterate 11 rfl);(first|rfl|(simp only[List.length_append,List.length_map,List.length_cons,List.length_nil];omega));(first|(simp only[List.length_append,List.length_map,List.length_cons,List.length_nil];omega)|(rw[hsl];omega));simp only[List.set_cons_zero,List.set_cons_succ])|(apply aa.q true;rfl;rfl;rfl;rfl;first|exact True.intro|omega|(simp only[tn,Int.reduceToNat];omega)|(rw[hsl];omega))|refine aa.ah (nw) ?_|refine aa.ae ?_|refine aa.af ?_|refine aa.au ?_|refine aa.ai ?_|refine aa.aG ?_|refine aa.aA ?_|refine aa.aj ?_|refine aa.bL ?_|refine aa.bq ?_|refine aa.aK ?_|refine aa.bD ?_|refine aa.df ?_|refine aa.dN ?_|refine aa.aB ?_|refine aa.aF ?_|intro _|refine aa.aP ?_|refine aa.aI ?_)
                  all_goals first
                    |exact aa.jk 4 [(15, .own 1 (suD l++[Nn u]) 3),(12, .own 1 [Nn x1.1,Nn x2.1,Nn x3.1,Nn x4.1,Nn x5.1,Nn x6.1,Nn x7.1,Nn y8] 2),(10,I ((q:Int)+1+8)),(7, .ptr 1 0),(4, .ptr 0 0),(1,I (p:Int)),(0,S (aS s))] (9 - (l++[u]).length) hm' rfl rfl rfl rfl ⟨rfl,rfl,rfl,rfl,rfl,rfl,rfl,trivial⟩ ⟨l++[u],q+1+8,rfl,hl',by omega,hsp',by rw[sa];rfl,by rw[sa];rfl⟩
                    |omega
      · rw[if_neg hv]at er
        rw[er (by simp)]
        refine ACalls.en Tryz.func57 Tryz.ntmps57 ?_
        repeat' (first|refine aa.aD ?_|refine aa.bh true ?_|refine aa.ah (ra) ?_|refine aa.ae ?_|refine aa.af ?_|refine aa.au ?_|refine aa.ai ?_|refine aa.aG ?_|refine aa.aA ?_|refine aa.aj ?_|refine aa.bL ?_|refine aa.bq ?_|refine aa.aK ?_|refine aa.bD ?_|refine aa.df ?_|refine aa.dN ?_|refine aa.aB ?_|refine aa.aF ?_|(apply aa.gN (.bK [.d (hdD hd0),I p,I 4]);rfl;exact aT.bK ⟨aT.d jr,aT.refl _,aT.refl _,trivial⟩;rfl;rfl;rfl)|intro _|refine aa.aP ?_|refine aa.aI ?_)
        all_goals first|exact⟨rfl,rfl⟩|omega
    · rw[if_neg he]at er
      rw[er he]
      refine ACalls.en Tryz.func57 Tryz.ntmps57 ?_
      repeat' (first|refine aa.aD ?_|refine aa.bh true ?_|refine aa.ah (ra) ?_|refine aa.ae ?_|refine aa.af ?_|refine aa.au ?_|refine aa.ai ?_|refine aa.aG ?_|refine aa.aA ?_|refine aa.aj ?_|refine aa.bL ?_|refine aa.bq ?_|refine aa.aK ?_|refine aa.bD ?_|refine aa.df ?_|refine aa.dN ?_|refine aa.aB ?_|refine aa.aF ?_|(apply aa.gN (.bK [.d (hdD hd0),I p,I e]);rfl;exact aT.bK ⟨aT.d jr,aT.refl _,aT.refl _,trivial⟩;rfl;rfl;rfl)|intro _|refine aa.aP ?_|refine aa.aI ?_)
      all_goals first|exact⟨rfl,rfl⟩|omega
  · rw[if_neg h8]at er
    have h8':(p:Int)%8≠0:=by omega
    rw[er (by simp)]
    refine ACalls.en Tryz.func57 Tryz.ntmps57 ?_
    repeat' (first|refine aa.aD ?_|refine aa.bh true ?_|refine aa.ae ?_|refine aa.af ?_|refine aa.au ?_|refine aa.ai ?_|refine aa.aG ?_|refine aa.aA ?_|refine aa.aj ?_|refine aa.bL ?_|refine aa.bq ?_|refine aa.aK ?_|refine aa.bD ?_|refine aa.df ?_|refine aa.dN ?_|refine aa.aB ?_|refine aa.aF ?_|(apply aa.gN (.bK [.d (hdD hd0),I p,I 4]);rfl;exact aT.bK ⟨aT.d jr,aT.refl _,aT.refl _,trivial⟩;rfl;rfl;rfl)|intro _|refine aa.aP ?_|refine aa.aI ?_)
    all_goals first|exact⟨rfl,rfl⟩|omega
end Si
end Go.Proofs.YtbpednchkndocaaGreatDoor.Av
