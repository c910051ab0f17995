/- Sheets: the document's answer, walked. -/
import Derived.Test.YtbpednchkndocaaGreatDoorPy8
import Derived.Test.YtbpednchkndocaaGreatDoorHd4
import Derived.Test.YtbpednchkndocaaGreatDoorCi9
set_option linter.unusedVariables false
set_option linter.unusedSimpArgs false
set_option maxRecDepth 100000
set_option maxHeartbeats 64000000
namespace Go.Proofs.YtbpednchkndocaaGreatDoor.Av
namespace Si
open Go Bt Sh Co Ci
attribute [local irreducible] aa ACalls aO aC bB aR bR bA bC
variable {gl:List (Nat×List D)}
abbrev tkW (s:List UInt8) (p:Nat) (h:Hd) (i:Nat) (x:St):Env:=[(14,I (i:Int)),(13,I (fA h.fmt)),(12, .ptr 2 0),(11,I x.first),(10, .own 2 (vD x.vs) 3),(8,I (x.q:Int)),(7, .ptr 1 0),(4, .ptr 0 0),(1,I (p:Int)),(0,S (aS s))]
abbrev tkO (h:Hd) (rows:List Rw) (vs:List (Int×Int)):List aM:=[mF, .cells [I h.ref,I h.flags,I h.fmt,B h.inter,I h.quant, .d (.sl 1 (suD h.supp)), .own 4 (rsD rows) 4,I 0], .cells [I (fW h.fmt),I (fH h.fmt),I (fR h.fmt),I (fL h.fmt)], .front 91 2 (vD vs).length, .front 90 4 (rsD rows).length]
theorem qg {fm:Int} {b:Bool} {s:List UInt8} {A F:Int} {N:Nat} {x:Rc} (h:x.err≠0):(rcX fm b s A F N x).1.err=x.err:=by
 cases N with
 |zero=>rfl
 |succ n=>rw[rcX,if_pos h]
theorem uz {p:Nat} {h:Hd} {s:List UInt8} {Z:St×Int} (hZ:Z.2≠0):shT p h (bhT s Z)=(hd0,[],0,Z.2,p):=by
 unfold bhT
 rw[if_pos hZ]
 unfold shT
 simp only
 rw[if_pos hZ]
theorem xA {Γ:Ctx} {nt n0:Nat} {k:List It} {env:Env} {H:List aM} {fn:Func} {R:AV→List aM→Prop} {r:AV} {I I':Nat→Env→List aM→Prop} {n n':Nat} {K K':List It} (r':AV) (hr:eU Γ env H fn.results.toList=some r) (hw:aT r r') (hl:Nat.ble n0 H.length=true) (hb:r'.bnd n0=true)
  (ho:dG n0 (H.take n0)=true) (h:R r' (H.take n0)):aa Γ nt n0 (.code .ret::k) (dM Γ nt n0 I n K (dM Γ nt n0 I' n' K' (nk Γ fn n0 R))) env H :=
 aa.ret (Q:=dM Γ nt n0 I n K (dM Γ nt n0 I' n' K' (nk Γ fn n0 R))) (Fin.mk' hr hw hl hb ho h)
attribute [local irreducible] Mk.bW Tc.cn suD dZ rsD vD ofV gy oO ak hrX clX aS Mk.nxB Mk.rhX zrX Mk.iA hdT fW fH fR fL
theorem D9 (s:List UInt8) (p:Nat) (hs:s.length≤100000) (hp:p≤8*s.length) :
  ACalls (cxg gl) 16 [S (aS s),I (p:Int)] []
   (fun r H=>r = .bK [.d (shD (shX s p).1 (rsD (shX s p).2.1) ((shX s p).2.2.1:Nat)),I ((shX s p).2.2.2.2:Int),I (shX s p).2.2.2.1]∧H=[]):=by
 have hl:=cZ s
 have r0:rsD []=[]:=by unfold rsD;rfl
 have v0:vD []=[]:=by unfold vD;rfl
 have c0:dZ []=[]:=wU
 have rs:=Ea (gl:=gl) s p (by omega) hp
 have hle:=BR s p hp
 have hfo:=De (s:=s) (p:=p)
 unfold shX shH
 generalize hdT s p=T at *
 obtain⟨h,e,q0⟩:=T
 simp only at rs hle hfo ⊢
 by_cases he:e=0
 ·subst he
  have hf:=hfo rfl
  have hAL:=yu hf
  have hfb:=rO hf
  have hAb:=Dl hf
  have k1:=wC (gl:=gl) h.fmt (by omega)
  have k2:=tC (gl:=gl) h.fmt (by omega)
  unfold D5 at k2
  obtain⟨N,hN⟩:∃N:Nat,N=(fA h.fmt*fL h.fmt).toNat:=⟨_,rfl⟩
  obtain⟨R,hR⟩:∃R:Nat,R=(fR h.fmt).toNat:=⟨_,rfl⟩
  have hNi:(N:Int)=fA h.fmt*fL h.fmt:=by omega
  have hRi:(R:Int)=fR h.fmt:=by omega
  have hRN:((R*N:Nat):Int)=fA h.fmt*fD h.fmt:=by rw[Int.natCast_mul,hNi,hRi];exact hAL.2.2.1
  simp only[ne_eq,not_true_eq_false,if_false]
  unfold bhX
  rw[←hN,←hR]
  obtain⟨Z,hZ⟩:∃Z,Z=rsX h.fmt h.inter s (fA h.fmt) (fL h.fmt) N R 0 ⟨[],[],0,q0⟩:=⟨_,rfl⟩
  rw[←hZ]
  refine ACalls.en Tryz.func16 Tryz.ntmps16 ?_
  repeat (first|refine aa.aD ?_|refine aa.bh true ?_|refine aa.ah (rs) ?_|refine aa.ah (k1) ?_|refine aa.ah (k2) ?_|refine aa.ae ?_|refine aa.af ?_|refine aa.au ?_|refine aa.ai ?_|refine aa.aG ?_|refine aa.aA ?_|refine aa.aL ?_|refine aa.aj ?_|refine aa.bL ?_|refine aa.bq ?_|refine aa.aK ?_|refine aa.bD ?_|refine aa.df ?_|refine aa.aB ?_|refine aa.aF ?_)
  (apply aa.yn 10 91 2;rfl;simp only[List.length_cons,List.length_nil,Nat.reduceAdd,List.cons_append,List.nil_append])
  (apply aa.oJ 10;rfl;rfl;rfl;simp only[List.set_cons_zero,List.set_cons_succ])
  (apply aa.nS 1 6 90 4;rfl;rfl;simp only[List.set_cons_zero,List.set_cons_succ,List.length_cons,List.length_nil,Nat.reduceAdd,List.cons_append,List.nil_append])
  (apply aa.mS 1 6;rfl;rfl;rfl;rfl;simp only[List.set_cons_zero,List.set_cons_succ])
  refine aa.weak (env':=[(14,I ((0:Nat):Int)),(13,I (fA h.fmt)),(12, .ptr 2 0),(11,I 0),(10, .own 2 [] 3),(8,I (q0:Int)),(7, .ptr 1 0),(4, .ptr 0 0),(1,I (p:Int)),(0,S (aS s))]) ⟨rfl,rfl,rfl,rfl,rfl,rfl,rfl,rfl,rfl,rfl,trivial⟩ ?_
  refine aa.loop (fun m env H=>∃(i:Nat) (x:St),m=R - i∧i≤R∧AY s 0 N i x∧Z=rsX h.fmt h.inter s (fA h.fmt) (fL h.fmt) N (R - i) i x∧env=tkW s p h i x∧H=tkO h x.rows x.vs) R
   ⟨0,⟨[],[],0,q0⟩,rfl,by omega,⟨hle.1,by omega,by simp[mY],by simp,by simp⟩,hZ,by unfold tkW;rw[v0],by unfold tkO;rw[v0,r0];rfl⟩ ?_
  rintro m env H ⟨i,x,rfl,hi,ok,hz,rfl,rfl⟩
  obtain⟨rows,vs,first,q⟩:=x
  have hq:=ok.q
  have hvs:=ok.vs
  have hlen:=ok.len
  simp only at hq hvs hlen
  have hrd:=xq rows
  rcases Nat.lt_or_ge i R with hlt|hge
  ·obtain⟨n0,hn⟩:∃n,R - i=n+1:=⟨R - i - 1,by omega⟩
   rw[hn,rsX]at hz
   have hmul:(i+1)*N≤R*N:=Nat.mul_le_mul_right _ hlt
   rw[Nat.add_mul,Nat.one_mul]at hmul
   have hlN:(vs.length:Int)+N≤fA h.fmt*fD h.fmt:=by omega
   have hNle:N≤1000:=by omega
   have hvl6:vs.length+N≤1000000:=by
    have h1:fA h.fmt*fD h.fmt≤88*72:=Int.mul_le_mul hAb.2.1 hAb.2.2.2 (by omega) (by omega)
    omega
   have hn':R - (i+1)=n0:=by omega
   have hLe:=Kt h.fmt
   have hmul2:(0:Int)≤(i:Int)*fL h.fmt∧(i:Int)*fL h.fmt≤1000*4:=⟨Int.mul_nonneg (by omega) hLe.1,Int.mul_le_mul (by omega) hLe.2 hLe.1 (by omega)⟩
   have nx:=Mk.Cz (gl:=gl) s q (by omega) hq
   have rt:=Mk.Lf (gl:=gl) s q i (by omega) (by omega) hq
   have hrl:=yf s q i (fL h.fmt) first hq
   have ok2:=Bn (fm:=h.fmt) (b:=h.inter) (A:=fA h.fmt) (L:=fL h.fmt) ok
   unfold rwX rwH at hz ok2
   obtain⟨y,hy⟩:∃y,y=hrX s q i (fL h.fmt) first:=⟨_,rfl⟩
   simp only at hz ok2
   rw[←hy]at hz ok2 hrl
   unfold hrX at hy
   generalize Mk.nxB s q=NX at *
   generalize Mk.rhX s q i=RX at *
   obtain⟨nn,b⟩:=NX
   obtain⟨rid,rq,re,ru⟩:=RX
   simp only at nx rt hy
   have hcs:(y=(false,0,0,0,q,first)∧(i=0∨(i≠0∧b=false)∨(i≠0∧b=true∧nn=0)∨(i≠0∧b=true∧nn=31)))∨(y=(true,rid,rq,re,ru,(i:Int)*fL h.fmt)∧i≠0∧b=true∧nn≠0∧nn≠31):=by
    by_cases hc:i=0∨b=false∨nn=0∨nn=31
    ·rw[if_pos hc]at hy
     refine .inl ⟨hy,?_⟩
     by_cases h0:i=0
     ·exact .inl h0
     ·cases b
      ·exact .inr (.inl ⟨h0,rfl⟩)
      ·rcases hc with e|e|e|e
       ·exact absurd e h0
       ·cases e
       ·exact .inr (.inr (.inl ⟨h0,rfl,e⟩))
       ·exact .inr (.inr (.inr ⟨h0,rfl,e⟩))
    ·rw[if_neg hc]at hy
     refine .inr ⟨hy,fun e=>hc (.inl e),?_,fun e=>hc (.inr (.inr (.inl e))),fun e=>hc (.inr (.inr (.inr e)))⟩
     cases b
     ·exact absurd (.inr (.inl rfl)) hc
     ·rfl
   clear hy
   rcases hcs with⟨rfl,h1⟩|⟨rfl,h1,rfl,h3,h4⟩
   ·rcases h1 with h1|⟨h1,rfl⟩|⟨h1,rfl,rfl⟩|⟨h1,rfl,rfl⟩
    all_goals
     simp only at hz ok2 hrl
     obtain⟨Y,hY⟩:∃Y,Y=rcX h.fmt h.inter s (fA h.fmt) first N ⟨[],0,q,vs⟩:=⟨_,rfl⟩
     rw[←hY]at hz ok2
     unfold rwT at hz ok2
     simp only at hz ok2
     repeat' (first|refine aa.aD ?_|(apply aa.q true;rfl;rfl;rfl;rfl;first|exact True.intro|omega|(simp only[tn,Int.reduceToNat];omega)|(exact⟨by omega,by omega⟩))|refine aa.ah (nx) ?_|refine aa.ae ?_|refine aa.af ?_|refine aa.au ?_|refine aa.ai ?_|refine aa.aG ?_|refine aa.aA ?_|refine aa.aL ?_|refine aa.aj ?_|refine aa.bL ?_|refine aa.bq ?_|refine aa.aK ?_|refine aa.bD ?_|refine aa.df ?_|refine aa.aB ?_|refine aa.aF ?_|intro _|refine aa.av ?_|refine aa.aI ?_)
     (apply aa.nS 5 3 96 18;rfl;rfl;simp only[List.set_cons_zero,List.set_cons_succ,List.length_cons,List.length_nil,Nat.reduceAdd,List.cons_append,List.nil_append])
     (apply aa.mS 5 3;rfl;rfl;rfl;rfl;simp only[List.set_cons_zero,List.set_cons_succ])
     refine aa.weak (env':=(22,I ((0:Nat):Int))::(15, .ptr 5 0)::tkW s p h i ⟨rows,vs,first,q⟩) ⟨rfl,rfl,rfl,rfl,rfl,rfl,rfl,rfl,rfl,rfl,rfl,rfl,trivial⟩ ?_
     refine aa.loop (fun m env H=>∃(k:Nat) (x:Rc),m=N - k∧k≤N∧x.cs.length=k∧x.err=0∧yQ s 0 vs.length x∧Y=rcX h.fmt h.inter s (fA h.fmt) first (N - k) x ∧
       env=(22,I (k:Int))::(15, .ptr 5 0)::tkW s p h i ⟨rows,x.vs,first,x.q⟩∧H=tkO h rows x.vs++[.cells [B false,I 0,I 0, .own 18 (dZ x.cs) 6], .front 96 18 (dZ x.cs).length]) N
      ⟨0,⟨[],0,q,vs⟩,rfl,by omega,rfl,rfl,⟨hrl.1,by omega,hvs,by simp⟩,hY,rfl,by rw[c0];rfl⟩ ?_
     rintro m env H ⟨k,⟨cs,er,qq,vv⟩,rfl,hk,hcl,her,rok,hyk,rfl,rfl⟩
     simp only at hcl her
     subst her
     have hcd:=oL cs
     have hvv:=ry vv
     have rq1:=rok.q
     have rv1:=rok.vs
     have rl1:=rok.len
     simp only at rq1 rv1 rl1
     rcases Nat.lt_or_ge k N with hlk|hgk
     ·obtain⟨n1,hn1⟩:∃n,N - k=n+1:=⟨N - k - 1,by omega⟩
      rw[hn1,rcX,if_neg (by simp)]at hyk
      have hn2:N - (k+1)=n1:=by omega
      have hbv:=rv1.of (fA h.fmt) first
      have rof:=Ki (gl:=gl) vv (fA h.fmt) first (by omega) (by omega)
      have rct:=wB (gl:=gl) h.inter (ofV vv (fA h.fmt) first).1 (ofV vv (fA h.fmt) first).2 s qq hbv.1 hbv.2 hs rq1
      have ok3:=yB (fm:=h.fmt) (b:=h.inter) (A:=fA h.fmt) (F:=first) rok
      unfold clX at hyk ok3
      simp only at hyk ok3
      generalize gy h.inter (ofV vv (fA h.fmt) first).1 (ofV vv (fA h.fmt) first).2 (ak s qq)=X at *
      obtain⟨c,e,u⟩:=X
      simp only at rct
      unfold clT at hyk ok3
      simp only at hyk ok3
      have ri:=jH (gl:=gl) c.kind
      have rm1:=FW (gl:=gl) h.fmt vv.length (c.mx,c.my) hf (by omega)
      have hva:=Bb vv (c.mx,c.my)
      have hca:=rU cs c
      by_cases hee:e=0
      ·subst hee
       rw[if_neg (by simp)]at hyk ok3
       generalize bf c.kind=kI at *
       generalize oO h.fmt vv.length (c.mx,c.my)=kM at *
       rw[←hvv]at rm1
       by_cases hko:(kI||kM)=true
       ·rw[if_pos hko]at hyk ok3
        have hcl':(cs++[c]).length=k+1:=by rw[List.length_append,hcl];rfl
        cases kI<;>cases kM<;>first|(exact absurd hko (by decide))|skip
        all_goals
         repeat' (first|refine aa.aD ?_|(apply aa.vn [0,1,2,3,4,5,6,7,8,9,10,11,12,13,14,15,16] 17 14 13;rfl)|refine bR.eC ?_|(apply bR.bi;rfl;(apply aQ.q true;rfl;rfl;first|exact True.intro|omega|(rw[hvv];omega)|(rw[hcd];omega));exact fun _ _ _ h=>h;(iterate 6 rfl);kernel_rfl;kernel_rfl)|(apply bR.load;rfl;rfl;(first|exact True.intro|omega|(rw[hvv];omega)|(rw[hcd];omega));exact fun _ _ _ h=>h;(iterate 6 rfl);kernel_rfl;kernel_rfl)|(apply bR.go)|refine bA.pU ?_|refine bA.eC ?_|(apply bA.bi;rfl;(apply aQ.q true;rfl;rfl;first|exact True.intro|omega|(rw[hvv];omega)|(rw[hcd];omega));exact fun _ _ _ h=>h;(iterate 6 rfl);kernel_rfl;kernel_rfl)|refine bA.kG ?_|(apply bA.iC;rfl;kernel_rfl)|refine bC.aH (rct) ?_|refine bC.aH (ri) ?_|refine bC.aH (rm1) ?_|refine bC.aH ( rof) ?_|refine bC.aG ?_|refine bC.dw ?_|(apply bA.back)|refine aR.bQ ?_|(apply aR.go)|(apply aR.pure true;rfl;exact fun _ _ _ h=>h;(iterate 6 rfl);kernel_rfl;kernel_rfl;first|exact True.intro|omega|(rw[hvv];omega)|(rw[hcd];omega))|refine aR.eO ?_|(apply aR.two;rfl;rfl;rfl;kernel_rfl)|(exact aa.cL)|(apply aa.bV;(repeat' (first|exact bz.nil|(apply bz.cons;rfl)));rfl)|(apply aa.append;(iterate 11 rfl);(first|rfl|(simp only[List.length_append,List.length_map,List.length_cons,List.length_nil];omega));(first|(simp only[List.length_append,List.length_map,List.length_cons,List.length_nil];omega)|(rw[hvv];omega)|(rw[hcd];omega));simp only[List.set_cons_zero,List.set_cons_succ])|(apply aa.q true;rfl;rfl;rfl;rfl;first|exact True.intro|omega|(simp only[tn,Int.reduceToNat];omega)|(rw[hvv];omega)|(rw[hcd];omega))|refine aa.ah (rct) ?_|refine aa.ah (ri) ?_|refine aa.ah (rm1) ?_|refine aa.ae ?_|refine aa.af ?_|refine aa.au ?_|refine aa.ai ?_|refine aa.aG ?_|refine aa.aA ?_|refine aa.aL ?_|refine aa.aj ?_|refine aa.bL ?_|refine aa.bq ?_|refine aa.aK ?_|refine aa.bD ?_|refine aa.df ?_|refine aa.aB ?_|refine aa.aF ?_|intro _|refine aa.av ?_|refine aa.aI ?_)
         all_goals first
          |exact aa.jk 7 ((22,I ((k+1:Nat):Int))::(15, .ptr 5 0)::[(14,I (i:Int)),(13,I (fA h.fmt)),(12, .ptr 2 0),(11,I first),(10, .own 2 (vD vv++[pD (c.mx,c.my)]) 3),(8,I ((qq+u:Nat):Int)),(7, .ptr 1 0),(4, .ptr 0 0),(1,I (p:Int)),(0,S (aS s))]) (N - (k+1)) (by omega) rfl rfl rfl rfl ⟨rfl,rfl,rfl,rfl,rfl,rfl,rfl,rfl,rfl,rfl,rfl,rfl,trivial⟩ ⟨k+1,⟨cs++[c],0,qq+u,vv++[(c.mx,c.my)]⟩,rfl,hlk,hcl',rfl,ok3,by rw[hn2];exact hyk,by unfold tkW;rw[hva],by rw[hva,hca];rfl⟩
          |omega
       ·rw[if_neg hko]at hyk
        have hYe:Y.1.err=8:=by rw[hyk];exact qg (by simp)
        have hZ2:Z.2=8:=by
         rw[hz,if_pos (by rw[hYe];decide)]
         exact hYe
        rw[uz (by rw[hZ2];decide),hZ2]
        cases kI<;>cases kM<;>first|(exact absurd rfl hko)|skip
        all_goals
         repeat' (first|refine aa.aD ?_|(apply aa.vn [0,1,2,3,4,5,6,7,8,9,10,11,12,13,14,15,16] 17 14 13;rfl)|refine bR.eC ?_|(apply bR.bi;rfl;(apply aQ.q true;rfl;rfl;first|exact True.intro|omega|(rw[hvv];omega));exact fun _ _ _ h=>h;(iterate 6 rfl);kernel_rfl;kernel_rfl)|(apply bR.load;rfl;rfl;(first|exact True.intro|omega|(rw[hvv];omega));exact fun _ _ _ h=>h;(iterate 6 rfl);kernel_rfl;kernel_rfl)|(apply bR.go)|refine bA.pU ?_|refine bA.eC ?_|(apply bA.bi;rfl;(apply aQ.q true;rfl;rfl;first|exact True.intro|omega|(rw[hvv];omega));exact fun _ _ _ h=>h;(iterate 6 rfl);kernel_rfl;kernel_rfl)|refine bA.kG ?_|(apply bA.iC;rfl;kernel_rfl)|refine bC.aH (rct) ?_|refine bC.aH (ri) ?_|refine bC.aH (rm1) ?_|refine bC.aH ( rof) ?_|refine bC.aG ?_|refine bC.dw ?_|(apply bA.back)|refine aR.bQ ?_|(apply aR.go)|(apply aR.pure true;rfl;exact fun _ _ _ h=>h;(iterate 6 rfl);kernel_rfl;kernel_rfl;first|exact True.intro|omega|(rw[hvv];omega))|refine aR.eO ?_|(apply aR.two;rfl;rfl;rfl;kernel_rfl)|(exact aa.cL)|(apply aa.bV;(repeat' (first|exact bz.nil|(apply bz.cons;rfl)));rfl)|(apply aa.q true;rfl;rfl;rfl;rfl;first|exact True.intro|omega|(simp only[tn,Int.reduceToNat];omega)|(rw[hvv];omega))|refine aa.ah (rct) ?_|refine aa.ah (ri) ?_|refine aa.ah (rm1) ?_|refine aa.ae ?_|refine aa.af ?_|refine aa.au ?_|refine aa.ai ?_|refine aa.aG ?_|refine aa.aA ?_|refine aa.aL ?_|refine aa.aj ?_|refine aa.bL ?_|refine aa.bq ?_|refine aa.aK ?_|refine aa.bD ?_|refine aa.df ?_|refine aa.aB ?_|refine aa.aF ?_|(apply xA (.bK [.d (shD hd0 (rsD []) 0),_,_]);rfl;exact aT.bK ⟨aT.d iG,aT.refl _,aT.refl _,trivial⟩;rfl;rfl;rfl)|intro _|refine aa.av ?_|refine aa.aI ?_)
         all_goals first|exact⟨rfl,rfl⟩|omega
      ·rw[if_pos hee]at hyk
       have hYe:Y.1.err=e:=by rw[hyk];exact qg hee
       have hZ2:Z.2=e:=by
        rw[hz,if_pos (by rw[hYe];exact hee)]
        exact hYe
       rw[uz (by rw[hZ2];exact hee),hZ2]
       repeat' (first|refine aa.aD ?_|(apply aa.vn [0,1,2,3,4,5,6,7,8,9,10,11,12,13,14,15,16] 17 14 13;rfl)|refine bR.eC ?_|(apply bR.bi;rfl;(apply aQ.q true;rfl;rfl;first|exact True.intro|omega);exact fun _ _ _ h=>h;(iterate 6 rfl);kernel_rfl;kernel_rfl)|refine bR.cf ?_|(apply bR.go)|refine bA.pU ?_|refine bA.eC ?_|(apply bA.bi;rfl;(apply aQ.q true;rfl;rfl;first|exact True.intro|omega);exact fun _ _ _ h=>h;(iterate 6 rfl);kernel_rfl;kernel_rfl)|refine bA.kG ?_|(apply bA.iC;rfl;kernel_rfl)|refine bC.aH (rct) ?_|refine bC.aH ( rof) ?_|refine bC.aG ?_|refine bC.dw ?_|(apply bA.back)|refine aR.bQ ?_|(apply aR.go)|refine aR.kx true ?_|refine aR.eO ?_|(apply aR.two;rfl;rfl;rfl;kernel_rfl)|(exact aa.cL)|(apply aa.bV;(repeat' (first|exact bz.nil|(apply bz.cons;rfl)));rfl)|refine aa.bh true ?_|refine aa.ah (rct) ?_|refine aa.ae ?_|refine aa.af ?_|refine aa.au ?_|refine aa.ai ?_|refine aa.aG ?_|refine aa.aA ?_|refine aa.aL ?_|refine aa.aj ?_|refine aa.bL ?_|refine aa.bq ?_|refine aa.aK ?_|refine aa.bD ?_|refine aa.df ?_|refine aa.aB ?_|refine aa.aF ?_|(apply xA (.bK [.d (shD hd0 (rsD []) 0),_,_]);rfl;exact aT.bK ⟨aT.d iG,aT.refl _,aT.refl _,trivial⟩;rfl;rfl;rfl)|intro _|refine aa.av ?_|refine aa.aI ?_)
       all_goals first|exact⟨rfl,rfl⟩|omega
     ·have hNk:N - k=0:=by omega
      rw[hNk,rcX]at hyk
      rw[hyk]at hz ok2
      simp only[if_true,ne_eq,not_true_eq_false,if_false]at hz ok2
      have hrw:=ok.rows
      simp only at hrw
      have hra:=xu rows ⟨false,0,0,cs⟩
      (apply aa.pQ 5 3;rfl;rfl;simp only[List.set_cons_zero,List.set_cons_succ])
      repeat' (first|refine aa.aD ?_|(apply aa.append;(iterate 11 rfl);(first|rfl|(simp only[List.length_append,List.length_map,List.length_cons,List.length_nil];omega));(first|(simp only[List.length_append,List.length_map,List.length_cons,List.length_nil];omega)|(rw[hrd];omega));simp only[List.set_cons_zero,List.set_cons_succ])|(apply aa.q true;rfl;rfl;rfl;rfl;first|exact True.intro|omega|(simp only[tn,Int.reduceToNat];omega)|(rw[hrd];omega))|refine aa.ae ?_|refine aa.af ?_|refine aa.au ?_|refine aa.ai ?_|refine aa.aG ?_|refine aa.aA ?_|refine aa.aL ?_|refine aa.aj ?_|refine aa.bL ?_|refine aa.bq ?_|refine aa.aK ?_|refine aa.bD ?_|refine aa.df ?_|refine aa.aB ?_|refine aa.aF ?_|intro _|refine aa.av ?_|refine aa.aI ?_)
      exact aa.jk 5 [(14,I ((i+1:Nat):Int)),(13,I (fA h.fmt)),(12, .ptr 2 0),(11,I first),(10, .own 2 (vD vv) 3),(8,I (qq:Int)),(7, .ptr 1 0),(4, .ptr 0 0),(1,I (p:Int)),(0,S (aS s))] (R - (i+1)) (by omega) rfl rfl rfl rfl ⟨rfl,rfl,rfl,rfl,rfl,rfl,rfl,rfl,rfl,rfl,trivial⟩ ⟨i+1,⟨rows++[⟨false,0,0,cs⟩],vv,first,qq⟩,rfl,hlt,ok2,by rw[hn'];exact hz,rfl,by unfold tkO;simp only;rw[hra];rfl⟩
   ·by_cases hre:re=0
    ·subst hre
     simp only at hz ok2 hrl
     obtain⟨Y,hY⟩:∃Y,Y=rcX h.fmt h.inter s (fA h.fmt) ((i:Int)*fL h.fmt) N ⟨[],0,ru,vs⟩:=⟨_,rfl⟩
     rw[←hY]at hz ok2
     unfold rwT at hz ok2
     simp only at hz ok2
     repeat' (first|refine aa.aD ?_|(apply aa.q true;rfl;rfl;rfl;rfl;first|exact True.intro|omega|(simp only[tn,Int.reduceToNat];omega)|(exact⟨by omega,by omega⟩))|refine aa.ah (nx) ?_|refine aa.ah (rt) ?_|refine aa.ae ?_|refine aa.af ?_|refine aa.au ?_|refine aa.ai ?_|refine aa.aG ?_|refine aa.aA ?_|refine aa.aL ?_|refine aa.aj ?_|refine aa.bL ?_|refine aa.bq ?_|refine aa.aK ?_|refine aa.bD ?_|refine aa.df ?_|refine aa.aB ?_|refine aa.aF ?_|intro _|refine aa.av ?_|refine aa.aI ?_)
     (apply aa.nS 5 3 96 18;rfl;rfl;simp only[List.set_cons_zero,List.set_cons_succ,List.length_cons,List.length_nil,Nat.reduceAdd,List.cons_append,List.nil_append])
     (apply aa.mS 5 3;rfl;rfl;rfl;rfl;simp only[List.set_cons_zero,List.set_cons_succ])
     refine aa.weak (env':=(22,I ((0:Nat):Int))::(15, .ptr 5 0)::tkW s p h i ⟨rows,vs,((i:Int)*fL h.fmt),ru⟩) ⟨rfl,rfl,rfl,rfl,rfl,rfl,rfl,rfl,rfl,rfl,rfl,rfl,trivial⟩ ?_
     refine aa.loop (fun m env H=>∃(k:Nat) (x:Rc),m=N - k∧k≤N∧x.cs.length=k∧x.err=0∧yQ s 0 vs.length x∧Y=rcX h.fmt h.inter s (fA h.fmt) ((i:Int)*fL h.fmt) (N - k) x ∧
       env=(22,I (k:Int))::(15, .ptr 5 0)::tkW s p h i ⟨rows,x.vs,((i:Int)*fL h.fmt),x.q⟩∧H=tkO h rows x.vs++[.cells [B true,I rid,I rq, .own 18 (dZ x.cs) 6], .front 96 18 (dZ x.cs).length]) N
      ⟨0,⟨[],0,ru,vs⟩,rfl,by omega,rfl,rfl,⟨hrl.1,by omega,hvs,by simp⟩,hY,rfl,by rw[c0];rfl⟩ ?_
     rintro m env H ⟨k,⟨cs,er,qq,vv⟩,rfl,hk,hcl,her,rok,hyk,rfl,rfl⟩
     simp only at hcl her
     subst her
     have hcd:=oL cs
     have hvv:=ry vv
     have rq1:=rok.q
     have rv1:=rok.vs
     have rl1:=rok.len
     simp only at rq1 rv1 rl1
     rcases Nat.lt_or_ge k N with hlk|hgk
     ·obtain⟨n1,hn1⟩:∃n,N - k=n+1:=⟨N - k - 1,by omega⟩
      rw[hn1,rcX,if_neg (by simp)]at hyk
      have hn2:N - (k+1)=n1:=by omega
      have hbv:=rv1.of (fA h.fmt) ((i:Int)*fL h.fmt)
      have rof:=Ki (gl:=gl) vv (fA h.fmt) ((i:Int)*fL h.fmt) (by omega) (by omega)
      have rct:=wB (gl:=gl) h.inter (ofV vv (fA h.fmt) ((i:Int)*fL h.fmt)).1 (ofV vv (fA h.fmt) ((i:Int)*fL h.fmt)).2 s qq hbv.1 hbv.2 hs rq1
      have ok3:=yB (fm:=h.fmt) (b:=h.inter) (A:=fA h.fmt) (F:=((i:Int)*fL h.fmt)) rok
      unfold clX at hyk ok3
      simp only at hyk ok3
      generalize gy h.inter (ofV vv (fA h.fmt) ((i:Int)*fL h.fmt)).1 (ofV vv (fA h.fmt) ((i:Int)*fL h.fmt)).2 (ak s qq)=X at *
      obtain⟨c,e,u⟩:=X
      simp only at rct
      unfold clT at hyk ok3
      simp only at hyk ok3
      have ri:=jH (gl:=gl) c.kind
      have rm1:=FW (gl:=gl) h.fmt vv.length (c.mx,c.my) hf (by omega)
      have hva:=Bb vv (c.mx,c.my)
      have hca:=rU cs c
      by_cases hee:e=0
      ·subst hee
       rw[if_neg (by simp)]at hyk ok3
       generalize bf c.kind=kI at *
       generalize oO h.fmt vv.length (c.mx,c.my)=kM at *
       rw[←hvv]at rm1
       by_cases hko:(kI||kM)=true
       ·rw[if_pos hko]at hyk ok3
        have hcl':(cs++[c]).length=k+1:=by rw[List.length_append,hcl];rfl
        cases kI<;>cases kM<;>first|(exact absurd hko (by decide))|skip
        all_goals
         repeat' (first|refine aa.aD ?_|(apply aa.vn [0,1,2,3,4,5,6,7,8,9,10,11,12,13,14,15,16] 17 14 13;rfl)|refine bR.eC ?_|(apply bR.bi;rfl;(apply aQ.q true;rfl;rfl;first|exact True.intro|omega|(rw[hvv];omega)|(rw[hcd];omega));exact fun _ _ _ h=>h;(iterate 6 rfl);kernel_rfl;kernel_rfl)|(apply bR.load;rfl;rfl;(first|exact True.intro|omega|(rw[hvv];omega)|(rw[hcd];omega));exact fun _ _ _ h=>h;(iterate 6 rfl);kernel_rfl;kernel_rfl)|(apply bR.go)|refine bA.pU ?_|refine bA.eC ?_|(apply bA.bi;rfl;(apply aQ.q true;rfl;rfl;first|exact True.intro|omega|(rw[hvv];omega)|(rw[hcd];omega));exact fun _ _ _ h=>h;(iterate 6 rfl);kernel_rfl;kernel_rfl)|refine bA.kG ?_|(apply bA.iC;rfl;kernel_rfl)|refine bC.aH (rct) ?_|refine bC.aH (ri) ?_|refine bC.aH (rm1) ?_|refine bC.aH ( rof) ?_|refine bC.aG ?_|refine bC.dw ?_|(apply bA.back)|refine aR.bQ ?_|(apply aR.go)|(apply aR.pure true;rfl;exact fun _ _ _ h=>h;(iterate 6 rfl);kernel_rfl;kernel_rfl;first|exact True.intro|omega|(rw[hvv];omega)|(rw[hcd];omega))|refine aR.eO ?_|(apply aR.two;rfl;rfl;rfl;kernel_rfl)|(exact aa.cL)|(apply aa.bV;(repeat' (first|exact bz.nil|(apply bz.cons;rfl)));rfl)|(apply aa.append;(iterate 11 rfl);(first|rfl|(simp only[List.length_append,List.length_map,List.length_cons,List.length_nil];omega));(first|(simp only[List.length_append,List.length_map,List.length_cons,List.length_nil];omega)|(rw[hvv];omega)|(rw[hcd];omega));simp only[List.set_cons_zero,List.set_cons_succ])|(apply aa.q true;rfl;rfl;rfl;rfl;first|exact True.intro|omega|(simp only[tn,Int.reduceToNat];omega)|(rw[hvv];omega)|(rw[hcd];omega))|refine aa.ah (rct) ?_|refine aa.ah (ri) ?_|refine aa.ah (rm1) ?_|refine aa.ae ?_|refine aa.af ?_|refine aa.au ?_|refine aa.ai ?_|refine aa.aG ?_|refine aa.aA ?_|refine aa.aL ?_|refine aa.aj ?_|refine aa.bL ?_|refine aa.bq ?_|refine aa.aK ?_|refine aa.bD ?_|refine aa.df ?_|refine aa.aB ?_|refine aa.aF ?_|intro _|refine aa.av ?_|refine aa.aI ?_)
         all_goals first
          |exact aa.jk 7 ((22,I ((k+1:Nat):Int))::(15, .ptr 5 0)::[(14,I (i:Int)),(13,I (fA h.fmt)),(12, .ptr 2 0),(11,I ((i:Int)*fL h.fmt)),(10, .own 2 (vD vv++[pD (c.mx,c.my)]) 3),(8,I ((qq+u:Nat):Int)),(7, .ptr 1 0),(4, .ptr 0 0),(1,I (p:Int)),(0,S (aS s))]) (N - (k+1)) (by omega) rfl rfl rfl rfl ⟨rfl,rfl,rfl,rfl,rfl,rfl,rfl,rfl,rfl,rfl,rfl,rfl,trivial⟩ ⟨k+1,⟨cs++[c],0,qq+u,vv++[(c.mx,c.my)]⟩,rfl,hlk,hcl',rfl,ok3,by rw[hn2];exact hyk,by unfold tkW;rw[hva],by rw[hva,hca];rfl⟩
          |omega
       ·rw[if_neg hko]at hyk
        have hYe:Y.1.err=8:=by rw[hyk];exact qg (by simp)
        have hZ2:Z.2=8:=by
         rw[hz,if_pos (by rw[hYe];decide)]
         exact hYe
        rw[uz (by rw[hZ2];decide),hZ2]
        cases kI<;>cases kM<;>first|(exact absurd rfl hko)|skip
        all_goals
         repeat' (first|refine aa.aD ?_|(apply aa.vn [0,1,2,3,4,5,6,7,8,9,10,11,12,13,14,15,16] 17 14 13;rfl)|refine bR.eC ?_|(apply bR.bi;rfl;(apply aQ.q true;rfl;rfl;first|exact True.intro|omega|(rw[hvv];omega));exact fun _ _ _ h=>h;(iterate 6 rfl);kernel_rfl;kernel_rfl)|(apply bR.load;rfl;rfl;(first|exact True.intro|omega|(rw[hvv];omega));exact fun _ _ _ h=>h;(iterate 6 rfl);kernel_rfl;kernel_rfl)|(apply bR.go)|refine bA.pU ?_|refine bA.eC ?_|(apply bA.bi;rfl;(apply aQ.q true;rfl;rfl;first|exact True.intro|omega|(rw[hvv];omega));exact fun _ _ _ h=>h;(iterate 6 rfl);kernel_rfl;kernel_rfl)|refine bA.kG ?_|(apply bA.iC;rfl;kernel_rfl)|refine bC.aH (rct) ?_|refine bC.aH (ri) ?_|refine bC.aH (rm1) ?_|refine bC.aH ( rof) ?_|refine bC.aG ?_|refine bC.dw ?_|(apply bA.back)|refine aR.bQ ?_|(apply aR.go)|(apply aR.pure true;rfl;exact fun _ _ _ h=>h;(iterate 6 rfl);kernel_rfl;kernel_rfl;first|exact True.intro|omega|(rw[hvv];omega))|refine aR.eO ?_|(apply aR.two;rfl;rfl;rfl;kernel_rfl)|(exact aa.cL)|(apply aa.bV;(repeat' (first|exact bz.nil|(apply bz.cons;rfl)));rfl)|(apply aa.q true;rfl;rfl;rfl;rfl;first|exact True.intro|omega|(simp only[tn,Int.reduceToNat];omega)|(rw[hvv];omega))|refine aa.ah (rct) ?_|refine aa.ah (ri) ?_|refine aa.ah (rm1) ?_|refine aa.ae ?_|refine aa.af ?_|refine aa.au ?_|refine aa.ai ?_|refine aa.aG ?_|refine aa.aA ?_|refine aa.aL ?_|refine aa.aj ?_|refine aa.bL ?_|refine aa.bq ?_|refine aa.aK ?_|refine aa.bD ?_|refine aa.df ?_|refine aa.aB ?_|refine aa.aF ?_|(apply xA (.bK [.d (shD hd0 (rsD []) 0),_,_]);rfl;exact aT.bK ⟨aT.d iG,aT.refl _,aT.refl _,trivial⟩;rfl;rfl;rfl)|intro _|refine aa.av ?_|refine aa.aI ?_)
         all_goals first|exact⟨rfl,rfl⟩|omega
      ·rw[if_pos hee]at hyk
       have hYe:Y.1.err=e:=by rw[hyk];exact qg hee
       have hZ2:Z.2=e:=by
        rw[hz,if_pos (by rw[hYe];exact hee)]
        exact hYe
       rw[uz (by rw[hZ2];exact hee),hZ2]
       repeat' (first|refine aa.aD ?_|(apply aa.vn [0,1,2,3,4,5,6,7,8,9,10,11,12,13,14,15,16] 17 14 13;rfl)|refine bR.eC ?_|(apply bR.bi;rfl;(apply aQ.q true;rfl;rfl;first|exact True.intro|omega);exact fun _ _ _ h=>h;(iterate 6 rfl);kernel_rfl;kernel_rfl)|refine bR.cf ?_|(apply bR.go)|refine bA.pU ?_|refine bA.eC ?_|(apply bA.bi;rfl;(apply aQ.q true;rfl;rfl;first|exact True.intro|omega);exact fun _ _ _ h=>h;(iterate 6 rfl);kernel_rfl;kernel_rfl)|refine bA.kG ?_|(apply bA.iC;rfl;kernel_rfl)|refine bC.aH (rct) ?_|refine bC.aH ( rof) ?_|refine bC.aG ?_|refine bC.dw ?_|(apply bA.back)|refine aR.bQ ?_|(apply aR.go)|refine aR.kx true ?_|refine aR.eO ?_|(apply aR.two;rfl;rfl;rfl;kernel_rfl)|(exact aa.cL)|(apply aa.bV;(repeat' (first|exact bz.nil|(apply bz.cons;rfl)));rfl)|refine aa.bh true ?_|refine aa.ah (rct) ?_|refine aa.ae ?_|refine aa.af ?_|refine aa.au ?_|refine aa.ai ?_|refine aa.aG ?_|refine aa.aA ?_|refine aa.aL ?_|refine aa.aj ?_|refine aa.bL ?_|refine aa.bq ?_|refine aa.aK ?_|refine aa.bD ?_|refine aa.df ?_|refine aa.aB ?_|refine aa.aF ?_|(apply xA (.bK [.d (shD hd0 (rsD []) 0),_,_]);rfl;exact aT.bK ⟨aT.d iG,aT.refl _,aT.refl _,trivial⟩;rfl;rfl;rfl)|intro _|refine aa.av ?_|refine aa.aI ?_)
       all_goals first|exact⟨rfl,rfl⟩|omega
     ·have hNk:N - k=0:=by omega
      rw[hNk,rcX]at hyk
      rw[hyk]at hz ok2
      simp only[if_true,ne_eq,not_true_eq_false,if_false]at hz ok2
      have hrw:=ok.rows
      simp only at hrw
      have hra:=xu rows ⟨true,rid,rq,cs⟩
      (apply aa.pQ 5 3;rfl;rfl;simp only[List.set_cons_zero,List.set_cons_succ])
      repeat' (first|refine aa.aD ?_|(apply aa.append;(iterate 11 rfl);(first|rfl|(simp only[List.length_append,List.length_map,List.length_cons,List.length_nil];omega));(first|(simp only[List.length_append,List.length_map,List.length_cons,List.length_nil];omega)|(rw[hrd];omega));simp only[List.set_cons_zero,List.set_cons_succ])|(apply aa.q true;rfl;rfl;rfl;rfl;first|exact True.intro|omega|(simp only[tn,Int.reduceToNat];omega)|(rw[hrd];omega))|refine aa.ae ?_|refine aa.af ?_|refine aa.au ?_|refine aa.ai ?_|refine aa.aG ?_|refine aa.aA ?_|refine aa.aL ?_|refine aa.aj ?_|refine aa.bL ?_|refine aa.bq ?_|refine aa.aK ?_|refine aa.bD ?_|refine aa.df ?_|refine aa.aB ?_|refine aa.aF ?_|intro _|refine aa.av ?_|refine aa.aI ?_)
      exact aa.jk 5 [(14,I ((i+1:Nat):Int)),(13,I (fA h.fmt)),(12, .ptr 2 0),(11,I ((i:Int)*fL h.fmt)),(10, .own 2 (vD vv) 3),(8,I (qq:Int)),(7, .ptr 1 0),(4, .ptr 0 0),(1,I (p:Int)),(0,S (aS s))] (R - (i+1)) (by omega) rfl rfl rfl rfl ⟨rfl,rfl,rfl,rfl,rfl,rfl,rfl,rfl,rfl,rfl,trivial⟩ ⟨i+1,⟨rows++[⟨true,rid,rq,cs⟩],vv,((i:Int)*fL h.fmt),qq⟩,rfl,hlt,ok2,by rw[hn'];exact hz,rfl,by unfold tkO;simp only;rw[hra];rfl⟩
    ·have hZ2:Z.2=re:=by
      unfold rwT at hz
      simp only at hz
      have hYe:(rcX h.fmt h.inter s (fA h.fmt) ((i:Int)*fL h.fmt) N ⟨[],re,ru,vs⟩).1.err=re:=qg hre
      rw[hz,if_pos (by rw[hYe];exact hre)]
      exact hYe
     rw[uz (by rw[hZ2];exact hre),hZ2]
     repeat' (first|refine aa.aD ?_|refine aa.bh true ?_|refine aa.ah (nx) ?_|refine aa.ah (rt) ?_|refine aa.ae ?_|refine aa.af ?_|refine aa.au ?_|refine aa.ai ?_|refine aa.aG ?_|refine aa.aA ?_|refine aa.aL ?_|refine aa.aj ?_|refine aa.bL ?_|refine aa.bq ?_|refine aa.aK ?_|refine aa.bD ?_|refine aa.df ?_|refine aa.aB ?_|refine aa.aF ?_|(apply aa.kU (.bK [.d (shD hd0 (rsD []) 0),_,_]);rfl;exact aT.bK ⟨aT.d iG,aT.refl _,aT.refl _,trivial⟩;rfl;rfl;rfl)|intro _|refine aa.av ?_|refine aa.aI ?_)
     all_goals first|exact⟨rfl,rfl⟩|omega
  ·have hR0:R - i=0:=by omega
   rw[hR0,rsX]at hz
   rw[hz]
   clear hz
   unfold bhT
   simp only[ne_eq,not_true_eq_false,if_false]
   have hle2:=Mk.kD s q hq
   repeat' (first|refine aa.aD ?_|refine aa.bh true ?_|refine aa.ae ?_|refine aa.af ?_|refine aa.au ?_|refine aa.ai ?_|refine aa.aG ?_|refine aa.aA ?_|refine aa.aL ?_|refine aa.aj ?_|refine aa.bL ?_|refine aa.bq ?_|refine aa.aK ?_|refine aa.bD ?_|refine aa.df ?_|refine aa.aB ?_|refine aa.aF ?_|intro _|refine aa.av ?_|refine aa.aI ?_)
   refine aa.weak (env':=[(8,I ((q+0:Nat):Int)),(7, .ptr 1 0),(4, .ptr 0 0),(1,I (p:Int)),(0,S (aS s))]) ⟨rfl,rfl,rfl,rfl,rfl,trivial⟩ ?_
   refine aa.loop (fun m env H=>∃j:Nat,m=Mk.bW q - j∧j≤Mk.bW q∧nB ((ak s q).take j)=0∧env=[(8,I ((q+j:Nat):Int)),(7, .ptr 1 0),(4, .ptr 0 0),(1,I (p:Int)),(0,S (aS s))]∧H=tkO h rows vs) (Mk.bW q)
    ⟨0,rfl,by omega,rfl,rfl,rfl⟩ ?_
   rintro m env H ⟨j,rfl,hj,hzz,rfl,rfl⟩
   rcases Nat.lt_or_ge j (Mk.bW q)with hlt|hgj
   ·obtain⟨b1,b2⟩:=Mk.uy s (q+j) (by omega)
    have hm:((q+j:Nat):Int)%8≠0:=by have:=Mk.rE q j hj;omega
    rcases b2 with b2|b2
    ·rw[b2]at b1
     have hz':nB ((ak s q).take (j+1))=0:=by rw[mr s q j (by omega),iz,hzz,b2];rfl
     repeat' (first|refine aa.aD ?_|refine aa.bh true ?_|refine aa.ae ?_|refine aa.af ?_|refine aa.au ?_|refine aa.ai ?_|refine aa.aG ?_|refine aa.aA ?_|refine aa.aL ?_|refine aa.aj ?_|refine aa.bL ?_|refine aa.bq ?_|refine aa.aK ?_|refine aa.bD ?_|refine aa.df ?_|refine aa.aB ?_|refine aa.aF ?_|intro _|refine aa.av ?_|refine aa.aI ?_)
     all_goals first
      |exact aa.round [(8,I ((q+(j+1):Nat):Int)),(7, .ptr 1 0),(4, .ptr 0 0),(1,I (p:Int)),(0,S (aS s))] (Mk.bW q - (j+1)) (by omega) ⟨rfl,rfl,rfl,rfl,rfl,trivial⟩ ⟨j+1,rfl,hlt,hz',rfl,rfl⟩
      |omega
    ·have hk:=Mk.CN s q j hlt hq hzz b2
     rw[b2]at b1
     rw[hk]
     simp only[Bool.false_eq_true,if_false]
     unfold shT
     simp only
     rw[if_pos (by decide)]
     repeat' (first|refine aa.aD ?_|refine aa.bh true ?_|refine aa.ae ?_|refine aa.af ?_|refine aa.au ?_|refine aa.ai ?_|refine aa.aG ?_|refine aa.aA ?_|refine aa.aL ?_|refine aa.aj ?_|refine aa.bL ?_|refine aa.bq ?_|refine aa.aK ?_|refine aa.bD ?_|refine aa.df ?_|refine aa.aB ?_|refine aa.aF ?_|(apply aa.kU (.bK [.d (shD hd0 (rsD []) 0),_,_]);rfl;exact aT.bK ⟨aT.d iG,aT.refl _,aT.refl _,trivial⟩;rfl;rfl;rfl)|intro _|refine aa.av ?_|refine aa.aI ?_)
     all_goals first|exact⟨rfl,rfl⟩|omega
   ·obtain rfl:j=Mk.bW q:=by omega
    have hk:Mk.iA s q=true:=by unfold Mk.iA;simpa using hzz
    have hm:((q+Mk.bW q:Nat):Int)%8=0:=by have:=Mk.rE q (Mk.bW q) hj;omega
    have hm8:(q+Mk.bW q)%8=0:=by omega
    have rz:=FL (gl:=gl) s (q+Mk.bW q) (by omega) hle2 hm8
    have zle:=KG (s:=s) (q:=q+Mk.bW q)
    have zle2:=p7 s (q+Mk.bW q)
    generalize Mk.zer (ak s (q+Mk.bW q))=zz at *
    rw[hk]
    simp only[if_true]
    unfold shT
    simp only[ne_eq,not_true_eq_false,if_false]
    generalize zrX s (q+Mk.bW q)=Zn at *
    generalize q+Mk.bW q=q2 at *
    (apply aa.pQ 1 6;rfl;rfl;simp only[List.set_cons_zero,List.set_cons_succ])
    repeat' (first|refine aa.aD ?_|(apply aa.fZ [0,1,2,3,4,5,6,7,8] 9;rfl)|refine aR.bQ ?_|(apply aR.go)|refine aR.kx true ?_|refine aR.eO ?_|(apply aR.two;rfl;rfl;rfl;kernel_rfl)|(exact aa.cL)|(apply aa.bV;(repeat' (first|exact bz.nil|(apply bz.cons;rfl)));rfl)|refine aa.bh true ?_|refine aa.ah (rz) ?_|refine aa.ae ?_|refine aa.af ?_|refine aa.au ?_|refine aa.ai ?_|refine aa.aG ?_|refine aa.aA ?_|refine aa.aL ?_|refine aa.aj ?_|refine aa.bL ?_|refine aa.bq ?_|refine aa.aK ?_|refine aa.bD ?_|refine aa.df ?_|refine aa.aB ?_|refine aa.aF ?_|intro _|refine aa.av ?_|refine aa.aI ?_)
    all_goals first|exact⟨rfl,rfl⟩|omega
 ·rw[if_pos he]
  refine ACalls.en Tryz.func16 Tryz.ntmps16 ?_
  repeat' (first|refine aa.aD ?_|refine aa.bh true ?_|refine aa.ah (rs) ?_|refine aa.ae ?_|refine aa.af ?_|refine aa.au ?_|refine aa.ai ?_|refine aa.aG ?_|refine aa.aA ?_|refine aa.aL ?_|refine aa.aj ?_|refine aa.bL ?_|refine aa.bq ?_|refine aa.aK ?_|refine aa.bD ?_|refine aa.df ?_|refine aa.aB ?_|refine aa.aF ?_|(apply aa.gN (.bK [.d (shD hd0 (rsD []) 0),I (p:Int),I e]);rfl;exact aT.bK ⟨aT.d iG,aT.refl _,aT.refl _,trivial⟩;rfl;rfl;rfl)|intro _|refine aa.av ?_|refine aa.aI ?_)
  all_goals first|exact⟨rfl,rfl⟩|omega
end Si
end Go.Proofs.YtbpednchkndocaaGreatDoor.Av
