/- Sheets: the document's answer, walked. -/
import Derived.Test.YtbpednchkndocaaGreatDoorPy8
import Derived.Test.YtbpednchkndocaaGreatDoorHd4
import Derived.Test.YtbpednchkndocaaGreatDoorCi8d
set_option linter.unusedVariables false
set_option linter.unusedSimpArgs false
set_option maxRecDepth 100000
set_option maxHeartbeats 64000000
namespace Go.Proofs.YtbpednchkndocaaGreatDoor.Av
namespace Si
open Go Bt Sh Co Ci
attribute [local irreducible] aa ACalls av ai aN aB bf aP aQ
variable {gl:List (Nat×List D)}
abbrev tkW (s:List UInt8) (p:Nat) (h:Hd) (i:Nat) (x:St):Env:=[(14,I (i:Int)),(13,I (fA h.fmt)),(12, .ptr 2 0),(11,I x.first),(10, .own 2 (vD x.vs) 3),(8,I (x.q:Int)),(7, .ptr 1 0),(4, .ptr 0 0),(1,I (p:Int)),(0,S (aC s))]
abbrev tkO (h:Hd) (rows:List Rw) (vs:List (Int×Int)):List au:=[lC, .cells [I h.ref,I h.flags,I h.fmt,B h.inter,I h.quant, .d (.sl 1 (suD h.supp)), .own 4 (rsD rows) 4,I 0], .cells [I (fW h.fmt),I (fH h.fmt),I (fR h.fmt),I (fL h.fmt)], .front 91 2 (vD vs).length, .front 90 4 (rsD rows).length]
theorem o9 {fm:Int} {b:Bool} {s:List UInt8} {A F:Int} {N:Nat} {x:Rc} (h:x.err≠0):(rcX fm b s A F N x).1.err=x.err:=by
 cases N with
 |zero=>rfl
 |succ n=>rw[rcX,if_pos h]
theorem tP {p:Nat} {h:Hd} {s:List UInt8} {Z:St×Int} (hZ:Z.2≠0):shT p h (bhT s Z)=(hd0,[],0,Z.2,p):=by
 unfold bhT
 rw[if_pos hZ]
 unfold shT
 simp only
 rw[if_pos hZ]
theorem wU {Γ:Ctx} {nt n0:Nat} {k:List It} {env:Env} {H:List au} {fn:Func} {R:AV→List au→Prop} {r:AV} {I I':Nat→Env→List au→Prop} {n n':Nat} {K K':List It} (r':AV) (hr:dO Γ env H fn.results.toList=some r) (hw:aD r r') (hl:Nat.ble n0 H.length=true) (hb:r'.bnd n0=true)
  (ho:cJ n0 (H.take n0)=true) (h:R r' (H.take n0)):aa Γ nt n0 (.code .ret::k) (cQ Γ nt n0 I n K (cQ Γ nt n0 I' n' K' (mf Γ fn n0 R))) env H :=
 aa.ret (Q:=cQ Γ nt n0 I n K (cQ Γ nt n0 I' n' K' (mf Γ fn n0 R))) (Fin.mk' hr hw hl hb ho h)
attribute [local irreducible] Mk.bv Tc.bB suD dw rsD vD ofV fu nU af hrX clX aC Mk.nxB Mk.rhX zrX Mk.gH hdT fW fH fR fL
theorem DJ (s:List UInt8) (p:Nat) (hs:s.length≤100000) (hp:p≤8*s.length) :
  ACalls (cxg gl) 16 [S (aC s),I (p:Int)] []
   (fun r H=>r = .aX [.d (shD (shX s p).1 (rsD (shX s p).2.1) ((shX s p).2.2.1:Nat)),I ((shX s p).2.2.2.2:Int),I (shX s p).2.2.2.1]∧H=[]):=by
 have hl:=bX s
 have r0:rsD []=[]:=by unfold rsD;rfl
 have v0:vD []=[]:=by unfold vD;rfl
 have c0:dw []=[]:=wo
 have rs:=DK (gl:=gl) s p (by omega) hp
 have hle:=Bq s p hp
 have hfo:=CJ (s:=s) (p:=p)
 unfold shX shH
 generalize hdT s p=T at *
 obtain⟨h,e,q0⟩:=T
 simp only at rs hle hfo ⊢
 by_cases he:e=0
 ·subst he
  have hf:=hfo rfl
  have hAL:=xL hf
  have hfb:=qP hf
  have hAb:=CP hf
  have k1:=vK (gl:=gl) h.fmt (by omega)
  have k2:=r9 (gl:=gl) h.fmt (by omega)
  unfold DD at k2
  obtain⟨N,hN⟩:∃N:Nat,N=(fA h.fmt*fL h.fmt).toNat:=⟨_,rfl⟩
  obtain⟨R,hR⟩:∃R:Nat,R=(fR h.fmt).toNat:=⟨_,rfl⟩
  have hNi:(N:Int)=fA h.fmt*fL h.fmt:=by omega
  have hRi:(R:Int)=fR h.fmt:=by omega
  have hRN:((R*N:Nat):Int)=fA h.fmt*fD h.fmt:=by rw[Int.natCast_mul,hNi,hRi];exact hAL.2.2.1
  simp only[ne_eq,not_true_eq_false,if_false]
  unfold bhX
  rw[←hN,←hR]
  obtain⟨Z,hZ⟩:∃Z,Z=rsX h.fmt h.inter s (fA h.fmt) (fL h.fmt) N R 0 ⟨[],[],0,q0⟩:=⟨_,rfl⟩
  rw[←hZ]
  refine ACalls.en Tryz.func16 Tryz.ntmps16 ?_
  repeat (first|refine aa.ae (rs) ?_|refine aa.ae (k1) ?_|refine aa.ae (k2) ?_|refine aa.iR ?_)
  (apply aa.xI 10 91 2;rfl;simp only[List.length_cons,List.length_nil,Nat.reduceAdd,List.cons_append,List.nil_append])
  (apply aa.nP 10;rfl;rfl;rfl;simp only[List.set_cons_zero,List.set_cons_succ])
  (apply aa.mP 1 6 90 4;rfl;rfl;simp only[List.set_cons_zero,List.set_cons_succ,List.length_cons,List.length_nil,Nat.reduceAdd,List.cons_append,List.nil_append])
  (apply aa.lV 1 6;rfl;rfl;rfl;rfl;simp only[List.set_cons_zero,List.set_cons_succ])
  refine aa.weak (env':=[(14,I ((0:Nat):Int)),(13,I (fA h.fmt)),(12, .ptr 2 0),(11,I 0),(10, .own 2 [] 3),(8,I (q0:Int)),(7, .ptr 1 0),(4, .ptr 0 0),(1,I (p:Int)),(0,S (aC s))]) ⟨rfl,rfl,rfl,rfl,rfl,rfl,rfl,rfl,rfl,rfl,trivial⟩ ?_
  refine aa.loop (fun m env H=>∃(i:Nat) (x:St),m=R - i∧i≤R∧Aj s 0 N i x∧Z=rsX h.fmt h.inter s (fA h.fmt) (fL h.fmt) N (R - i) i x∧env=tkW s p h i x∧H=tkO h x.rows x.vs) R
   ⟨0,⟨[],[],0,q0⟩,rfl,by omega,⟨hle.1,by omega,by simp[l4],by simp,by simp⟩,hZ,by unfold tkW;rw[v0],by unfold tkO;rw[v0,r0];rfl⟩ ?_
  rintro m env H ⟨i,x,rfl,hi,ok,hz,rfl,rfl⟩
  obtain⟨rows,vs,first,q⟩:=x
  have hq:=ok.q
  have hvs:=ok.vs
  have hlen:=ok.len
  simp only at hq hvs hlen
  have hrd:=wP rows
  rcases Nat.lt_or_ge i R with hlt|hge
  ·obtain⟨n0,hn⟩:∃n,R - i=n+1:=⟨R - i - 1,by omega⟩
   rw[hn,rsX]at hz
   have hmul:(i+1)*N≤R*N:=Nat.mul_le_mul_right _ hlt
   rw[Nat.add_mul,Nat.one_mul]at hmul
   have hlN:(vs.length:Int)+N≤fA h.fmt*fD h.fmt:=by omega
   have hNle:N≤1000:=by omega
   have hvl6:vs.length+N≤1000000:=by
    have h1:fA h.fmt*fD h.fmt≤88*72:=Int.mul_le_mul hAb.2.1 hAb.2.2.2 (by omega) (by omega)
    omega
   have hn':R - (i+1)=n0:=by omega
   have hLe:=Kr h.fmt
   have hmul2:(0:Int)≤(i:Int)*fL h.fmt∧(i:Int)*fL h.fmt≤1000*4:=⟨Int.mul_nonneg (by omega) hLe.1,Int.mul_le_mul (by omega) hLe.2 hLe.1 (by omega)⟩
   have nx:=Mk.BW (gl:=gl) s q (by omega) hq
   have rt:=Mk.Ld (gl:=gl) s q i (by omega) (by omega) hq
   have hrl:=xB s q i (fL h.fmt) first hq
   have ok2:=AK (fm:=h.fmt) (b:=h.inter) (A:=fA h.fmt) (L:=fL h.fmt) ok
   unfold rwX rwH at hz ok2
   obtain⟨y,hy⟩:∃y,y=hrX s q i (fL h.fmt) first:=⟨_,rfl⟩
   simp only at hz ok2
   rw[←hy]at hz ok2 hrl
   unfold hrX at hy
   generalize Mk.nxB s q=NX at *
   generalize Mk.rhX s q i=RX at *
   obtain⟨nn,b⟩:=NX
   obtain⟨rid,rq,re,ru⟩:=RX
   simp only at nx rt hy
   have hcs:(y=(false,0,0,0,q,first)∧(i=0∨(i≠0∧b=false)∨(i≠0∧b=true∧nn=0)∨(i≠0∧b=true∧nn=31)))∨(y=(true,rid,rq,re,ru,(i:Int)*fL h.fmt)∧i≠0∧b=true∧nn≠0∧nn≠31):=by
    by_cases hc:i=0∨b=false∨nn=0∨nn=31
    ·rw[if_pos hc]at hy
     refine .inl ⟨hy,?_⟩
     by_cases h0:i=0
     ·exact .inl h0
     ·cases b
      ·exact .inr (.inl ⟨h0,rfl⟩)
      ·rcases hc with e|e|e|e
       ·exact absurd e h0
       ·cases e
       ·exact .inr (.inr (.inl ⟨h0,rfl,e⟩))
       ·exact .inr (.inr (.inr ⟨h0,rfl,e⟩))
    ·rw[if_neg hc]at hy
     refine .inr ⟨hy,fun e=>hc (.inl e),?_,fun e=>hc (.inr (.inr (.inl e))),fun e=>hc (.inr (.inr (.inr e)))⟩
     cases b
     ·exact absurd (.inr (.inl rfl)) hc
     ·rfl
   clear hy
   rcases hcs with⟨rfl,h1⟩|⟨rfl,h1,rfl,h3,h4⟩
   ·rcases h1 with h1|⟨h1,rfl⟩|⟨h1,rfl,rfl⟩|⟨h1,rfl,rfl⟩
    all_goals
     simp only at hz ok2 hrl
     obtain⟨Y,hY⟩:∃Y,Y=rcX h.fmt h.inter s (fA h.fmt) first N ⟨[],0,q,vs⟩:=⟨_,rfl⟩
     rw[←hY]at hz ok2
     unfold rwT at hz ok2
     simp only at hz ok2
     repeat' (first|(apply aa.q true;rfl;rfl;rfl;rfl;first|exact True.intro|omega|(simp only[tn,Int.reduceToNat];omega)|(exact⟨by omega,by omega⟩))|refine aa.ae (nx) ?_|intro _|refine aa.aR ?_)
     (apply aa.mP 5 3 96 18;rfl;rfl;simp only[List.set_cons_zero,List.set_cons_succ,List.length_cons,List.length_nil,Nat.reduceAdd,List.cons_append,List.nil_append])
     (apply aa.lV 5 3;rfl;rfl;rfl;rfl;simp only[List.set_cons_zero,List.set_cons_succ])
     refine aa.weak (env':=(22,I ((0:Nat):Int))::(15, .ptr 5 0)::tkW s p h i ⟨rows,vs,first,q⟩) ⟨rfl,rfl,rfl,rfl,rfl,rfl,rfl,rfl,rfl,rfl,rfl,rfl,trivial⟩ ?_
     refine aa.loop (fun m env H=>∃(k:Nat) (x:Rc),m=N - k∧k≤N∧x.cs.length=k∧x.err=0∧ym s 0 vs.length x∧Y=rcX h.fmt h.inter s (fA h.fmt) first (N - k) x ∧
       env=(22,I (k:Int))::(15, .ptr 5 0)::tkW s p h i ⟨rows,x.vs,first,x.q⟩∧H=tkO h rows x.vs++[.cells [B false,I 0,I 0, .own 18 (dw x.cs) 6], .front 96 18 (dw x.cs).length]) N
      ⟨0,⟨[],0,q,vs⟩,rfl,by omega,rfl,rfl,⟨hrl.1,by omega,hvs,by simp⟩,hY,rfl,by rw[c0];rfl⟩ ?_
     rintro m env H ⟨k,⟨cs,er,qq,vv⟩,rfl,hk,hcl,her,rok,hyk,rfl,rfl⟩
     simp only at hcl her
     subst her
     have hcd:=nR cs
     have hvv:=qA vv
     have rq1:=rok.q
     have rv1:=rok.vs
     have rl1:=rok.len
     simp only at rq1 rv1 rl1
     rcases Nat.lt_or_ge k N with hlk|hgk
     ·obtain⟨n1,hn1⟩:∃n,N - k=n+1:=⟨N - k - 1,by omega⟩
      rw[hn1,rcX,if_neg (by simp)]at hyk
      have hn2:N - (k+1)=n1:=by omega
      have hbv:=rv1.of (fA h.fmt) first
      have rof:=Ke (gl:=gl) vv (fA h.fmt) first (by omega) (by omega)
      have rct:=vJ (gl:=gl) h.inter (ofV vv (fA h.fmt) first).1 (ofV vv (fA h.fmt) first).2 s qq hbv.1 hbv.2 hs rq1
      have ok3:=xR (fm:=h.fmt) (b:=h.inter) (A:=fA h.fmt) (F:=first) rok
      unfold clX at hyk ok3
      simp only at hyk ok3
      generalize fu h.inter (ofV vv (fA h.fmt) first).1 (ofV vv (fA h.fmt) first).2 (af s qq)=X at *
      obtain⟨c,e,u⟩:=X
      simp only at rct
      unfold clT at hyk ok3
      simp only at hyk ok3
      have ri:=ja (gl:=gl) c.kind
      have rm1:=FH (gl:=gl) h.fmt vv.length (c.mx,c.my) hf (by omega)
      have hva:=Aq vv (c.mx,c.my)
      have hca:=qW cs c
      by_cases hee:e=0
      ·subst hee
       rw[if_neg (by simp)]at hyk ok3
       generalize aI c.kind=kI at *
       generalize nU h.fmt vv.length (c.mx,c.my)=kM at *
       rw[←hvv]at rm1
       by_cases hko:(kI||kM)=true
       ·rw[if_pos hko]at hyk ok3
        have hcl':(cs++[c]).length=k+1:=by rw[List.length_append,hcl];rfl
        cases kI<;>cases kM<;>first|(exact absurd hko (by decide))|skip
        all_goals
         repeat' (first|(apply aa.uH [0,1,2,3,4,5,6,7,8,9,10,11,12,13,14,15,16] 17 14 13;rfl)|refine bf.dE ?_|(apply bf.aK;rfl;(apply aA.q true;rfl;rfl;first|exact True.intro|omega|(rw[hvv];omega)|(rw[hcd];omega));exact fun _ _ _ h=>h;(iterate 6 rfl);kernel_rfl;kernel_rfl)|(apply bf.load;rfl;rfl;(first|exact True.intro|omega|(rw[hvv];omega)|(rw[hcd];omega));exact fun _ _ _ h=>h;(iterate 6 rfl);kernel_rfl;kernel_rfl)|(apply bf.go)|refine aP.oG ?_|refine aP.dE ?_|(apply aP.aK;rfl;(apply aA.q true;rfl;rfl;first|exact True.intro|omega|(rw[hvv];omega)|(rw[hcd];omega));exact fun _ _ _ h=>h;(iterate 6 rfl);kernel_rfl;kernel_rfl)|refine aP.jM ?_|(apply aP.gJ;rfl;kernel_rfl)|refine aQ.aj (rct) ?_|refine aQ.aj (ri) ?_|refine aQ.aj (rm1) ?_|refine aQ.aj ( rof) ?_|refine aQ.ig ?_|refine aQ.cg ?_|(apply aP.back)|refine aB.bg ?_|(apply aB.go)|(apply aB.pure true;rfl;exact fun _ _ _ h=>h;(iterate 6 rfl);kernel_rfl;kernel_rfl;first|exact True.intro|omega|(rw[hvv];omega)|(rw[hcd];omega))|refine aB.dK ?_|(apply aB.two;rfl;rfl;rfl;kernel_rfl)|(exact aa.bP)|(apply aa.bq;(repeat' (first|exact aO.nil|(apply aO.cons;rfl)));rfl)|(apply aa.append;(iterate 11 rfl);(first|rfl|(simp only[List.length_append,List.length_map,List.length_cons,List.length_nil];omega));(first|(simp only[List.length_append,List.length_map,List.length_cons,List.length_nil];omega)|(rw[hvv];omega)|(rw[hcd];omega));simp only[List.set_cons_zero,List.set_cons_succ])|(apply aa.q true;rfl;rfl;rfl;rfl;first|exact True.intro|omega|(simp only[tn,Int.reduceToNat];omega)|(rw[hvv];omega)|(rw[hcd];omega))|refine aa.ae (rct) ?_|refine aa.ae (ri) ?_|refine aa.ae (rm1) ?_|intro _|refine aa.aR ?_)
         all_goals first
          |exact aa.iI 7 ((22,I ((k+1:Nat):Int))::(15, .ptr 5 0)::[(14,I (i:Int)),(13,I (fA h.fmt)),(12, .ptr 2 0),(11,I first),(10, .own 2 (vD vv++[pD (c.mx,c.my)]) 3),(8,I ((qq+u:Nat):Int)),(7, .ptr 1 0),(4, .ptr 0 0),(1,I (p:Int)),(0,S (aC s))]) (N - (k+1)) (by omega) rfl rfl rfl rfl ⟨rfl,rfl,rfl,rfl,rfl,rfl,rfl,rfl,rfl,rfl,rfl,rfl,trivial⟩ ⟨k+1,⟨cs++[c],0,qq+u,vv++[(c.mx,c.my)]⟩,rfl,hlk,hcl',rfl,ok3,by rw[hn2];exact hyk,by unfold tkW;rw[hva],by rw[hva,hca];rfl⟩
          |omega
       ·rw[if_neg hko]at hyk
        have hYe:Y.1.err=8:=by rw[hyk];exact o9 (by simp)
        have hZ2:Z.2=8:=by
         rw[hz,if_pos (by rw[hYe];decide)]
         exact hYe
        rw[tP (by rw[hZ2];decide),hZ2]
        cases kI<;>cases kM<;>first|(exact absurd rfl hko)|skip
        all_goals
         repeat' (first|(apply aa.uH [0,1,2,3,4,5,6,7,8,9,10,11,12,13,14,15,16] 17 14 13;rfl)|refine bf.dE ?_|(apply bf.aK;rfl;(apply aA.q true;rfl;rfl;first|exact True.intro|omega|(rw[hvv];omega));exact fun _ _ _ h=>h;(iterate 6 rfl);kernel_rfl;kernel_rfl)|(apply bf.load;rfl;rfl;(first|exact True.intro|omega|(rw[hvv];omega));exact fun _ _ _ h=>h;(iterate 6 rfl);kernel_rfl;kernel_rfl)|(apply bf.go)|refine aP.oG ?_|refine aP.dE ?_|(apply aP.aK;rfl;(apply aA.q true;rfl;rfl;first|exact True.intro|omega|(rw[hvv];omega));exact fun _ _ _ h=>h;(iterate 6 rfl);kernel_rfl;kernel_rfl)|refine aP.jM ?_|(apply aP.gJ;rfl;kernel_rfl)|refine aQ.aj (rct) ?_|refine aQ.aj (ri) ?_|refine aQ.aj (rm1) ?_|refine aQ.aj ( rof) ?_|refine aQ.ig ?_|refine aQ.cg ?_|(apply aP.back)|refine aB.bg ?_|(apply aB.go)|(apply aB.pure true;rfl;exact fun _ _ _ h=>h;(iterate 6 rfl);kernel_rfl;kernel_rfl;first|exact True.intro|omega|(rw[hvv];omega))|refine aB.dK ?_|(apply aB.two;rfl;rfl;rfl;kernel_rfl)|(exact aa.bP)|(apply aa.bq;(repeat' (first|exact aO.nil|(apply aO.cons;rfl)));rfl)|(apply aa.q true;rfl;rfl;rfl;rfl;first|exact True.intro|omega|(simp only[tn,Int.reduceToNat];omega)|(rw[hvv];omega))|refine aa.ae (rct) ?_|refine aa.ae (ri) ?_|refine aa.ae (rm1) ?_|(apply wU (.aX [.d (shD hd0 (rsD []) 0),_,_]);rfl;exact aD.aX ⟨aD.d gM,aD.refl _,aD.refl _,trivial⟩;rfl;rfl;rfl)|intro _|refine aa.aR ?_)
         all_goals first|exact⟨rfl,rfl⟩|omega
      ·rw[if_pos hee]at hyk
       have hYe:Y.1.err=e:=by rw[hyk];exact o9 hee
       have hZ2:Z.2=e:=by
        rw[hz,if_pos (by rw[hYe];exact hee)]
        exact hYe
       rw[tP (by rw[hZ2];exact hee),hZ2]
       repeat' (first|(apply aa.uH [0,1,2,3,4,5,6,7,8,9,10,11,12,13,14,15,16] 17 14 13;rfl)|refine bf.dE ?_|(apply bf.aK;rfl;(apply aA.q true;rfl;rfl;first|exact True.intro|omega);exact fun _ _ _ h=>h;(iterate 6 rfl);kernel_rfl;kernel_rfl)|refine bf.bD ?_|(apply bf.go)|refine aP.oG ?_|refine aP.dE ?_|(apply aP.aK;rfl;(apply aA.q true;rfl;rfl;first|exact True.intro|omega);exact fun _ _ _ h=>h;(iterate 6 rfl);kernel_rfl;kernel_rfl)|refine aP.jM ?_|(apply aP.gJ;rfl;kernel_rfl)|refine aQ.aj (rct) ?_|refine aQ.aj ( rof) ?_|refine aQ.ig ?_|refine aQ.cg ?_|(apply aP.back)|refine aB.bg ?_|(apply aB.go)|refine aB.jG true ?_|refine aB.dK ?_|(apply aB.two;rfl;rfl;rfl;kernel_rfl)|(exact aa.bP)|(apply aa.bq;(repeat' (first|exact aO.nil|(apply aO.cons;rfl)));rfl)|refine aa.bN true ?_|refine aa.ae (rct) ?_|(apply wU (.aX [.d (shD hd0 (rsD []) 0),_,_]);rfl;exact aD.aX ⟨aD.d gM,aD.refl _,aD.refl _,trivial⟩;rfl;rfl;rfl)|intro _|refine aa.aR ?_)
       all_goals first|exact⟨rfl,rfl⟩|omega
     ·have hNk:N - k=0:=by omega
      rw[hNk,rcX]at hyk
      rw[hyk]at hz ok2
      simp only[if_true,ne_eq,not_true_eq_false,if_false]at hz ok2
      have hrw:=ok.rows
      simp only at hrw
      have hra:=wQ rows ⟨false,0,0,cs⟩
      (apply aa.oD 5 3;rfl;rfl;simp only[List.set_cons_zero,List.set_cons_succ])
      repeat' (first|(apply aa.append;(iterate 11 rfl);(first|rfl|(simp only[List.length_append,List.length_map,List.length_cons,List.length_nil];omega));(first|(simp only[List.length_append,List.length_map,List.length_cons,List.length_nil];omega)|(rw[hrd];omega));simp only[List.set_cons_zero,List.set_cons_succ])|(apply aa.q true;rfl;rfl;rfl;rfl;first|exact True.intro|omega|(simp only[tn,Int.reduceToNat];omega)|(rw[hrd];omega))|intro _|refine aa.aR ?_)
      exact aa.iI 5 [(14,I ((i+1:Nat):Int)),(13,I (fA h.fmt)),(12, .ptr 2 0),(11,I first),(10, .own 2 (vD vv) 3),(8,I (qq:Int)),(7, .ptr 1 0),(4, .ptr 0 0),(1,I (p:Int)),(0,S (aC s))] (R - (i+1)) (by omega) rfl rfl rfl rfl ⟨rfl,rfl,rfl,rfl,rfl,rfl,rfl,rfl,rfl,rfl,trivial⟩ ⟨i+1,⟨rows++[⟨false,0,0,cs⟩],vv,first,qq⟩,rfl,hlt,ok2,by rw[hn'];exact hz,rfl,by unfold tkO;simp only;rw[hra];rfl⟩
   ·by_cases hre:re=0
    ·subst hre
     simp only at hz ok2 hrl
     obtain⟨Y,hY⟩:∃Y,Y=rcX h.fmt h.inter s (fA h.fmt) ((i:Int)*fL h.fmt) N ⟨[],0,ru,vs⟩:=⟨_,rfl⟩
     rw[←hY]at hz ok2
     unfold rwT at hz ok2
     simp only at hz ok2
     repeat' (first|(apply aa.q true;rfl;rfl;rfl;rfl;first|exact True.intro|omega|(simp only[tn,Int.reduceToNat];omega)|(exact⟨by omega,by omega⟩))|refine aa.ae (nx) ?_|refine aa.ae (rt) ?_|intro _|refine aa.aR ?_)
     (apply aa.mP 5 3 96 18;rfl;rfl;simp only[List.set_cons_zero,List.set_cons_succ,List.length_cons,List.length_nil,Nat.reduceAdd,List.cons_append,List.nil_append])
     (apply aa.lV 5 3;rfl;rfl;rfl;rfl;simp only[List.set_cons_zero,List.set_cons_succ])
     refine aa.weak (env':=(22,I ((0:Nat):Int))::(15, .ptr 5 0)::tkW s p h i ⟨rows,vs,((i:Int)*fL h.fmt),ru⟩) ⟨rfl,rfl,rfl,rfl,rfl,rfl,rfl,rfl,rfl,rfl,rfl,rfl,trivial⟩ ?_
     refine aa.loop (fun m env H=>∃(k:Nat) (x:Rc),m=N - k∧k≤N∧x.cs.length=k∧x.err=0∧ym s 0 vs.length x∧Y=rcX h.fmt h.inter s (fA h.fmt) ((i:Int)*fL h.fmt) (N - k) x ∧
       env=(22,I (k:Int))::(15, .ptr 5 0)::tkW s p h i ⟨rows,x.vs,((i:Int)*fL h.fmt),x.q⟩∧H=tkO h rows x.vs++[.cells [B true,I rid,I rq, .own 18 (dw x.cs) 6], .front 96 18 (dw x.cs).length]) N
      ⟨0,⟨[],0,ru,vs⟩,rfl,by omega,rfl,rfl,⟨hrl.1,by omega,hvs,by simp⟩,hY,rfl,by rw[c0];rfl⟩ ?_
     rintro m env H ⟨k,⟨cs,er,qq,vv⟩,rfl,hk,hcl,her,rok,hyk,rfl,rfl⟩
     simp only at hcl her
     subst her
     have hcd:=nR cs
     have hvv:=qA vv
     have rq1:=rok.q
     have rv1:=rok.vs
     have rl1:=rok.len
     simp only at rq1 rv1 rl1
     rcases Nat.lt_or_ge k N with hlk|hgk
     ·obtain⟨n1,hn1⟩:∃n,N - k=n+1:=⟨N - k - 1,by omega⟩
      rw[hn1,rcX,if_neg (by simp)]at hyk
      have hn2:N - (k+1)=n1:=by omega
      have hbv:=rv1.of (fA h.fmt) ((i:Int)*fL h.fmt)
      have rof:=Ke (gl:=gl) vv (fA h.fmt) ((i:Int)*fL h.fmt) (by omega) (by omega)
      have rct:=vJ (gl:=gl) h.inter (ofV vv (fA h.fmt) ((i:Int)*fL h.fmt)).1 (ofV vv (fA h.fmt) ((i:Int)*fL h.fmt)).2 s qq hbv.1 hbv.2 hs rq1
      have ok3:=xR (fm:=h.fmt) (b:=h.inter) (A:=fA h.fmt) (F:=((i:Int)*fL h.fmt)) rok
      unfold clX at hyk ok3
      simp only at hyk ok3
      generalize fu h.inter (ofV vv (fA h.fmt) ((i:Int)*fL h.fmt)).1 (ofV vv (fA h.fmt) ((i:Int)*fL h.fmt)).2 (af s qq)=X at *
      obtain⟨c,e,u⟩:=X
      simp only at rct
      unfold clT at hyk ok3
      simp only at hyk ok3
      have ri:=ja (gl:=gl) c.kind
      have rm1:=FH (gl:=gl) h.fmt vv.length (c.mx,c.my) hf (by omega)
      have hva:=Aq vv (c.mx,c.my)
      have hca:=qW cs c
      by_cases hee:e=0
      ·subst hee
       rw[if_neg (by simp)]at hyk ok3
       generalize aI c.kind=kI at *
       generalize nU h.fmt vv.length (c.mx,c.my)=kM at *
       rw[←hvv]at rm1
       by_cases hko:(kI||kM)=true
       ·rw[if_pos hko]at hyk ok3
        have hcl':(cs++[c]).length=k+1:=by rw[List.length_append,hcl];rfl
        cases kI<;>cases kM<;>first|(exact absurd hko (by decide))|skip
        all_goals
         repeat' (first|(apply aa.uH [0,1,2,3,4,5,6,7,8,9,10,11,12,13,14,15,16] 17 14 13;rfl)|refine bf.dE ?_|(apply bf.aK;rfl;(apply aA.q true;rfl;rfl;first|exact True.intro|omega|(rw[hvv];omega)|(rw[hcd];omega));exact fun _ _ _ h=>h;(iterate 6 rfl);kernel_rfl;kernel_rfl)|(apply bf.load;rfl;rfl;(first|exact True.intro|omega|(rw[hvv];omega)|(rw[hcd];omega));exact fun _ _ _ h=>h;(iterate 6 rfl);kernel_rfl;kernel_rfl)|(apply bf.go)|refine aP.oG ?_|refine aP.dE ?_|(apply aP.aK;rfl;(apply aA.q true;rfl;rfl;first|exact True.intro|omega|(rw[hvv];omega)|(rw[hcd];omega));exact fun _ _ _ h=>h;(iterate 6 rfl);kernel_rfl;kernel_rfl)|refine aP.jM ?_|(apply aP.gJ;rfl;kernel_rfl)|refine aQ.aj (rct) ?_|refine aQ.aj (ri) ?_|refine aQ.aj (rm1) ?_|refine aQ.aj ( rof) ?_|refine aQ.ig ?_|refine aQ.cg ?_|(apply aP.back)|refine aB.bg ?_|(apply aB.go)|(apply aB.pure true;rfl;exact fun _ _ _ h=>h;(iterate 6 rfl);kernel_rfl;kernel_rfl;first|exact True.intro|omega|(rw[hvv];omega)|(rw[hcd];omega))|refine aB.dK ?_|(apply aB.two;rfl;rfl;rfl;kernel_rfl)|(exact aa.bP)|(apply aa.bq;(repeat' (first|exact aO.nil|(apply aO.cons;rfl)));rfl)|(apply aa.append;(iterate 11 rfl);(first|rfl|(simp only[List.length_append,List.length_map,List.length_cons,List.length_nil];omega));(first|(simp only[List.length_append,List.length_map,List.length_cons,List.length_nil];omega)|(rw[hvv];omega)|(rw[hcd];omega));simp only[List.set_cons_zero,List.set_cons_succ])|(apply aa.q true;rfl;rfl;rfl;rfl;first|exact True.intro|omega|(simp only[tn,Int.reduceToNat];omega)|(rw[hvv];omega)|(rw[hcd];omega))|refine aa.ae (rct) ?_|refine aa.ae (ri) ?_|refine aa.ae (rm1) ?_|intro _|refine aa.aR ?_)
         all_goals first
          |exact aa.iI 7 ((22,I ((k+1:Nat):Int))::(15, .ptr 5 0)::[(14,I (i:Int)),(13,I (fA h.fmt)),(12, .ptr 2 0),(11,I ((i:Int)*fL h.fmt)),(10, .own 2 (vD vv++[pD (c.mx,c.my)]) 3),(8,I ((qq+u:Nat):Int)),(7, .ptr 1 0),(4, .ptr 0 0),(1,I (p:Int)),(0,S (aC s))]) (N - (k+1)) (by omega) rfl rfl rfl rfl ⟨rfl,rfl,rfl,rfl,rfl,rfl,rfl,rfl,rfl,rfl,rfl,rfl,trivial⟩ ⟨k+1,⟨cs++[c],0,qq+u,vv++[(c.mx,c.my)]⟩,rfl,hlk,hcl',rfl,ok3,by rw[hn2];exact hyk,by unfold tkW;rw[hva],by rw[hva,hca];rfl⟩
          |omega
       ·rw[if_neg hko]at hyk
        have hYe:Y.1.err=8:=by rw[hyk];exact o9 (by simp)
        have hZ2:Z.2=8:=by
         rw[hz,if_pos (by rw[hYe];decide)]
         exact hYe
        rw[tP (by rw[hZ2];decide),hZ2]
        cases kI<;>cases kM<;>first|(exact absurd rfl hko)|skip
        all_goals
         repeat' (first|(apply aa.uH [0,1,2,3,4,5,6,7,8,9,10,11,12,13,14,15,16] 17 14 13;rfl)|refine bf.dE ?_|(apply bf.aK;rfl;(apply aA.q true;rfl;rfl;first|exact True.intro|omega|(rw[hvv];omega));exact fun _ _ _ h=>h;(iterate 6 rfl);kernel_rfl;kernel_rfl)|(apply bf.load;rfl;rfl;(first|exact True.intro|omega|(rw[hvv];omega));exact fun _ _ _ h=>h;(iterate 6 rfl);kernel_rfl;kernel_rfl)|(apply bf.go)|refine aP.oG ?_|refine aP.dE ?_|(apply aP.aK;rfl;(apply aA.q true;rfl;rfl;first|exact True.intro|omega|(rw[hvv];omega));exact fun _ _ _ h=>h;(iterate 6 rfl);kernel_rfl;kernel_rfl)|refine aP.jM ?_|(apply aP.gJ;rfl;kernel_rfl)|refine aQ.aj (rct) ?_|refine aQ.aj (ri) ?_|refine aQ.aj (rm1) ?_|refine aQ.aj ( rof) ?_|refine aQ.ig ?_|refine aQ.cg ?_|(apply aP.back)|refine aB.bg ?_|(apply aB.go)|(apply aB.pure true;rfl;exact fun _ _ _ h=>h;(iterate 6 rfl);kernel_rfl;kernel_rfl;first|exact True.intro|omega|(rw[hvv];omega))|refine aB.dK ?_|(apply aB.two;rfl;rfl;rfl;kernel_rfl)|(exact aa.bP)|(apply aa.bq;(repeat' (first|exact aO.nil|(apply aO.cons;rfl)));rfl)|(apply aa.q true;rfl;rfl;rfl;rfl;first|exact True.intro|omega|(simp only[tn,Int.reduceToNat];omega)|(rw[hvv];omega))|refine aa.ae (rct) ?_|refine aa.ae (ri) ?_|refine aa.ae (rm1) ?_|(apply wU (.aX [.d (shD hd0 (rsD []) 0),_,_]);rfl;exact aD.aX ⟨aD.d gM,aD.refl _,aD.refl _,trivial⟩;rfl;rfl;rfl)|intro _|refine aa.aR ?_)
         all_goals first|exact⟨rfl,rfl⟩|omega
      ·rw[if_pos hee]at hyk
       have hYe:Y.1.err=e:=by rw[hyk];exact o9 hee
       have hZ2:Z.2=e:=by
        rw[hz,if_pos (by rw[hYe];exact hee)]
        exact hYe
       rw[tP (by rw[hZ2];exact hee),hZ2]
       repeat' (first|(apply aa.uH [0,1,2,3,4,5,6,7,8,9,10,11,12,13,14,15,16] 17 14 13;rfl)|refine bf.dE ?_|(apply bf.aK;rfl;(apply aA.q true;rfl;rfl;first|exact True.intro|omega);exact fun _ _ _ h=>h;(iterate 6 rfl);kernel_rfl;kernel_rfl)|refine bf.bD ?_|(apply bf.go)|refine aP.oG ?_|refine aP.dE ?_|(apply aP.aK;rfl;(apply aA.q true;rfl;rfl;first|exact True.intro|omega);exact fun _ _ _ h=>h;(iterate 6 rfl);kernel_rfl;kernel_rfl)|refine aP.jM ?_|(apply aP.gJ;rfl;kernel_rfl)|refine aQ.aj (rct) ?_|refine aQ.aj ( rof) ?_|refine aQ.ig ?_|refine aQ.cg ?_|(apply aP.back)|refine aB.bg ?_|(apply aB.go)|refine aB.jG true ?_|refine aB.dK ?_|(apply aB.two;rfl;rfl;rfl;kernel_rfl)|(exact aa.bP)|(apply aa.bq;(repeat' (first|exact aO.nil|(apply aO.cons;rfl)));rfl)|refine aa.bN true ?_|refine aa.ae (rct) ?_|(apply wU (.aX [.d (shD hd0 (rsD []) 0),_,_]);rfl;exact aD.aX ⟨aD.d gM,aD.refl _,aD.refl _,trivial⟩;rfl;rfl;rfl)|intro _|refine aa.aR ?_)
       all_goals first|exact⟨rfl,rfl⟩|omega
     ·have hNk:N - k=0:=by omega
      rw[hNk,rcX]at hyk
      rw[hyk]at hz ok2
      simp only[if_true,ne_eq,not_true_eq_false,if_false]at hz ok2
      have hrw:=ok.rows
      simp only at hrw
      have hra:=wQ rows ⟨true,rid,rq,cs⟩
      (apply aa.oD 5 3;rfl;rfl;simp only[List.set_cons_zero,List.set_cons_succ])
      repeat' (first|(apply aa.append;(iterate 11 rfl);(first|rfl|(simp only[List.length_append,List.length_map,List.length_cons,List.length_nil];omega));(first|(simp only[List.length_append,List.length_map,List.length_cons,List.length_nil];omega)|(rw[hrd];omega));simp only[List.set_cons_zero,List.set_cons_succ])|(apply aa.q true;rfl;rfl;rfl;rfl;first|exact True.intro|omega|(simp only[tn,Int.reduceToNat];omega)|(rw[hrd];omega))|intro _|refine aa.aR ?_)
      exact aa.iI 5 [(14,I ((i+1:Nat):Int)),(13,I (fA h.fmt)),(12, .ptr 2 0),(11,I ((i:Int)*fL h.fmt)),(10, .own 2 (vD vv) 3),(8,I (qq:Int)),(7, .ptr 1 0),(4, .ptr 0 0),(1,I (p:Int)),(0,S (aC s))] (R - (i+1)) (by omega) rfl rfl rfl rfl ⟨rfl,rfl,rfl,rfl,rfl,rfl,rfl,rfl,rfl,rfl,trivial⟩ ⟨i+1,⟨rows++[⟨true,rid,rq,cs⟩],vv,((i:Int)*fL h.fmt),qq⟩,rfl,hlt,ok2,by rw[hn'];exact hz,rfl,by unfold tkO;simp only;rw[hra];rfl⟩
    ·have hZ2:Z.2=re:=by
      unfold rwT at hz
      simp only at hz
      have hYe:(rcX h.fmt h.inter s (fA h.fmt) ((i:Int)*fL h.fmt) N ⟨[],re,ru,vs⟩).1.err=re:=o9 hre
      rw[hz,if_pos (by rw[hYe];exact hre)]
      exact hYe
     rw[tP (by rw[hZ2];exact hre),hZ2]
     repeat' (first|refine aa.bN true ?_|refine aa.ae (nx) ?_|refine aa.ae (rt) ?_|(apply aa.jZ (.aX [.d (shD hd0 (rsD []) 0),_,_]);rfl;exact aD.aX ⟨aD.d gM,aD.refl _,aD.refl _,trivial⟩;rfl;rfl;rfl)|intro _|refine aa.aR ?_)
     all_goals first|exact⟨rfl,rfl⟩|omega
  ·have hR0:R - i=0:=by omega
   rw[hR0,rsX]at hz
   rw[hz]
   clear hz
   unfold bhT
   simp only[ne_eq,not_true_eq_false,if_false]
   have hle2:=Mk.jJ s q hq
   repeat' (first|intro _|refine aa.aR ?_)
   refine aa.weak (env':=[(8,I ((q+0:Nat):Int)),(7, .ptr 1 0),(4, .ptr 0 0),(1,I (p:Int)),(0,S (aC s))]) ⟨rfl,rfl,rfl,rfl,rfl,trivial⟩ ?_
   refine aa.loop (fun m env H=>∃j:Nat,m=Mk.bv q - j∧j≤Mk.bv q∧nB ((af s q).take j)=0∧env=[(8,I ((q+j:Nat):Int)),(7, .ptr 1 0),(4, .ptr 0 0),(1,I (p:Int)),(0,S (aC s))]∧H=tkO h rows vs) (Mk.bv q)
    ⟨0,rfl,by omega,rfl,rfl,rfl⟩ ?_
   rintro m env H ⟨j,rfl,hj,hzz,rfl,rfl⟩
   rcases Nat.lt_or_ge j (Mk.bv q)with hlt|hgj
   ·obtain⟨b1,b2⟩:=Mk.tO s (q+j) (by omega)
    have hm:((q+j:Nat):Int)%8≠0:=by have:=Mk.qF q j hj;omega
    rcases b2 with b2|b2
    ·rw[b2]at b1
     have hz':nB ((af s q).take (j+1))=0:=by rw[lq s q j (by omega),gG,hzz,b2];rfl
     repeat' (first|intro _|refine aa.aR ?_)
     all_goals first
      |exact aa.round [(8,I ((q+(j+1):Nat):Int)),(7, .ptr 1 0),(4, .ptr 0 0),(1,I (p:Int)),(0,S (aC s))] (Mk.bv q - (j+1)) (by omega) ⟨rfl,rfl,rfl,rfl,rfl,trivial⟩ ⟨j+1,rfl,hlt,hz',rfl,rfl⟩
      |omega
    ·have hk:=Mk.Cq s q j hlt hq hzz b2
     rw[b2]at b1
     rw[hk]
     simp only[Bool.false_eq_true,if_false]
     unfold shT
     simp only
     rw[if_pos (by decide)]
     repeat' (first|refine aa.bN true ?_|(apply aa.jZ (.aX [.d (shD hd0 (rsD []) 0),_,_]);rfl;exact aD.aX ⟨aD.d gM,aD.refl _,aD.refl _,trivial⟩;rfl;rfl;rfl)|intro _|refine aa.aR ?_)
     all_goals first|exact⟨rfl,rfl⟩|omega
   ·obtain rfl:j=Mk.bv q:=by omega
    have hk:Mk.gH s q=true:=by unfold Mk.gH;simpa using hzz
    have hm:((q+Mk.bv q:Nat):Int)%8=0:=by have:=Mk.qF q (Mk.bv q) hj;omega
    have hm8:(q+Mk.bv q)%8=0:=by omega
    have rz:=Fw (gl:=gl) s (q+Mk.bv q) (by omega) hle2 hm8
    have zle:=KE (s:=s) (q:=q+Mk.bv q)
    have zle2:=oN s (q+Mk.bv q)
    generalize Mk.zer (af s (q+Mk.bv q))=zz at *
    rw[hk]
    simp only[if_true]
    unfold shT
    simp only[ne_eq,not_true_eq_false,if_false]
    generalize zrX s (q+Mk.bv q)=Zn at *
    generalize q+Mk.bv q=q2 at *
    (apply aa.oD 1 6;rfl;rfl;simp only[List.set_cons_zero,List.set_cons_succ])
    repeat' (first|(apply aa.eT [0,1,2,3,4,5,6,7,8] 9;rfl)|refine aB.bg ?_|(apply aB.go)|refine aB.jG true ?_|refine aB.dK ?_|(apply aB.two;rfl;rfl;rfl;kernel_rfl)|(exact aa.bP)|(apply aa.bq;(repeat' (first|exact aO.nil|(apply aO.cons;rfl)));rfl)|refine aa.bN true ?_|refine aa.ae (rz) ?_|intro _|refine aa.aR ?_)
    all_goals first|exact⟨rfl,rfl⟩|omega
 ·rw[if_pos he]
  refine ACalls.en Tryz.func16 Tryz.ntmps16 ?_
  repeat' (first|refine aa.bN true ?_|refine aa.ae (rs) ?_|(apply aa.fK (.aX [.d (shD hd0 (rsD []) 0),I (p:Int),I e]);rfl;exact aD.aX ⟨aD.d gM,aD.refl _,aD.refl _,trivial⟩;rfl;rfl;rfl)|intro _|refine aa.aR ?_)
  all_goals first|exact⟨rfl,rfl⟩|omega
end Si
end Go.Proofs.YtbpednchkndocaaGreatDoor.Av
