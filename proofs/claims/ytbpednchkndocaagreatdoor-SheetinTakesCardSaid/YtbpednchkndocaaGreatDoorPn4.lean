/- Labels that nothing jumps to. Regions that draw their order: an empty slice written out among the steps that keep what there was. Regions that draw their order: two or three steps that may come up in any order behind the reads. Regions that draw their order: what nobody writes is read ahead of all; then all orders. Arrays of whole numbers: unlike. -/
import Derived.Test.YtbpednchkndocaaGreatDoorPn3
import Derived.Scope
set_option linter.unusedVariables false
set_option linter.unusedSimpArgs false
set_option maxRecDepth 100000
set_option maxHeartbeats 64000000
namespace Go.Proofs.YtbpednchkndocaaGreatDoor.Av
section
open Go Go.RowKit
theorem jJ {P:Program} {Q':Exit→Act→World→Prop} {l:Nat}:∀(k:List It) (a:Act) (w:World),aX P Q' k (.goto l) a w=Q' (.goto l) a w
 |[],_,_=>rfl
 | .blk j::k,a,w=>by simp only[aX];exact jJ k a w
 | .code _::k,a,w=>by simp only[aX];exact jJ k a w
 | .ops _ _::k,a,w=>by simp only[aX];exact jJ k a w
 | .qops _ _::k,a,w=>by simp only[aX];exact jJ k a w
 | .sops _ _::k,a,w=>by simp only[aX];exact jJ k a w
 | .lp _::k,a,w=>by simp only[aX];exact jJ k a w
section
variable {Γ:Ctx} {nt n0:Nat} {k:List It} {Q:Post} {env:Env} {H:List aM}
theorem aa.label {l:Nat} (h:aa Γ nt n0 k Q env H):aa Γ nt n0 (.code (.label l)::k) Q env H :=
 fun G0 G a w h0 hl hF hdf hW=>by
  simp only[aX]
  exact wp_label (h G0 G a w h0 hl hF hdf hW)
theorem aa.scope {c:Code} (hng:∀l env H,¬Q (.goto l) env H) (h:aa Γ nt n0 (.code c::k) Q env H):aa Γ nt n0 (.code (.scope c)::k) Q env H :=
 fun G0 G a w h0 hl hF hdf hW=>by
  have hn:=h G0 G a w h0 hl hF hdf hW
  simp only[aX]at hn ⊢
  refine wp_scope_straight (wp_mono hn fun e a' w' hq=>?_)
  cases e with
  |goto l =>
   rw[jJ]at hq
   obtain⟨_,env',H',_,_,_,_,_,hq⟩:=hq
   exact (hng l env' H' hq).elim
  |_=>exact hq
theorem aa.IV {c:Code} (h:aa Γ nt n0 (.code c::k) Q env H) (hng:∀l env H,¬Q (.goto l) env H:=by exact fun _ _ _ h=>h):aa Γ nt n0 (.code (.scope c)::k) Q env H:=aa.scope hng h
theorem aa.kU {fn:Func} {R:AV→List aM→Prop} {r:AV} {I:Nat→Env→List aM→Prop} {n:Nat} {K:List It} (r':AV) (hr:eU Γ env H fn.results.toList=some r) (hw:aT r r') (hl:Nat.ble n0 H.length=true) (hb:r'.bnd n0=true)
  (ho:dG n0 (H.take n0)=true) (h:R r' (H.take n0)):aa Γ nt n0 (.code .ret::k) (dM Γ nt n0 I n K (nk Γ fn n0 R)) env H:=aa.ret (Q:=dM Γ nt n0 I n K (nk Γ fn n0 R)) (Fin.mk' hr hw hl hb ho h)
end
end
section
open Go Go.RowKit
section
variable {Γ:Ctx} {nt n0:Nat} {k:List It} {Q:Post} {env:Env} {H:List aM}
end
end
section
open Go Go.RowKit
section
variable {Γ:Ctx} {nt n0:Nat} {k:List It} {Q:Post} {env:Env} {H:List aM}
def bB (Γ:Ctx) (nt n0:Nat) (all:Array Oper) (ix:List Nat) (m f i:Nat) (done:List Nat) (k:List It) (Q:Post) (env:Env) (H:List aM):Prop :=
 i∈Region.ready .any all (cF all.size done)→∀G0 G a w (w0:World) (GK:aN),GLe n0 G0 G→n0≤H.length→cQ G nt a.tmps env→a.defers=[]→bH Γ.gl G H w→(Yet m (cF all.size done)→w0.heap.size≤w.heap.size∧KB GK [] w0 w)→Closed all (cF all.size done) →
  wpOp Γ.P all (aX Γ.P (Conc Γ nt n0 G0 Q) k) i (fun a' w'=>(Yet m (cF all.size done)→i<m→KB GK [] w0 w')∧eB Γ.P all (aX Γ.P (Conc Γ nt n0 G0 Q) k) (fun w'=>KB GK [] w0 w') m f ((cF all.size done).setIfInBounds i true) a' w') a w
theorem aC.iC {all:Array Oper} {ix:List Nat} {m f:Nat} {done:List Nat} {i j:Nat} {o p:Oper} (hL:fE all.toList ix done=[(i,o),(j,p)]) (hr:decide (Region.ready .any all (cF all.size done)=[i,j])=true)
  (h1:bB Γ nt n0 all ix m f i done k Q env H) (h2:bB Γ nt n0 all ix m f j done k Q env H):aC Γ nt n0 all ix m (f+1) done k Q env H :=
 fun G0 G a w w0 GK h0 hl hF hdf hW hS hcl=>by
  have hr':=of_decide_eq_true hr
  refine⟨fun h=>(by rw[hr']at h;cases h),fun x hx=>?_⟩
  have hx':=hx
  rw[hr']at hx'
  simp only[List.mem_cons,List.not_mem_nil,or_false]at hx'
  rcases hx' with rfl|rfl
  ·exact h1 hx G0 G a w w0 GK h0 hl hF hdf hW hS hcl
  ·exact h2 hx G0 G a w w0 GK h0 hl hF hdf hW hS hcl
theorem aC.Dh {all:Array Oper} {ix:List Nat} {m f:Nat} {done:List Nat} {i j l:Nat} {o p q:Oper} (hL:fE all.toList ix done=[(i,o),(j,p),(l,q)]) (hr:decide (Region.ready .any all (cF all.size done)=[i,j,l])=true)
  (h1:bB Γ nt n0 all ix m f i done k Q env H) (h2:bB Γ nt n0 all ix m f j done k Q env H) (h3:bB Γ nt n0 all ix m f l done k Q env H):aC Γ nt n0 all ix m (f+1) done k Q env H :=
 fun G0 G a w w0 GK h0 hl hF hdf hW hS hcl=>by
  have hr':=of_decide_eq_true hr
  refine⟨fun h=>(by rw[hr']at h;cases h),fun x hx=>?_⟩
  have hx':=hx
  rw[hr']at hx'
  simp only[List.mem_cons,List.not_mem_nil,or_false]at hx'
  rcases hx' with rfl|rfl|rfl
  ·exact h1 hx G0 G a w w0 GK h0 hl hF hdf hW hS hcl
  ·exact h2 hx G0 G a w w0 GK h0 hl hF hdf hW hS hcl
  ·exact h3 hx G0 G a w w0 GK h0 hl hF hdf hW hS hcl
theorem bB.call {all:Array Oper} {ix:List Nat} {m f fn:Nat} {done:List Nat} {i:Nat} {o:Oper} {t:Nat} {args0 args:List AV} {X r':AV} {Y H':List aM} (hR:ACalls Γ fn args [] (fun r H=>r=X∧H=Y)) (ho:all[i]?=some o) (hcall:dR Γ env o.op=some (fn,args0)) (hwk:args0.map fgt=args) (hw:bN all env o=some true) (hd:o.dst=some t) (ht:Nat.ble (t+1) nt=true)
  (hab:AV.dA 0 args=true) (him:Nat.ble (i+1) m=true) (hrr:r'=AV.ren (names [] H.length Y.length) X) (hH:H'=gm [] (Y.map (aM.ren (names [] H.length Y.length))) H)
  (h:aC Γ nt n0 all ix m f (i::done) k Q ((t,r')::env) H'):bB Γ nt n0 all ix m f i done k Q env H :=
 fun hmem G0 G a w w0 GK h0 hl hF hdf hW hS hcl=>by
  have hcl':=hcl.set (i:=i) hmem
  obtain⟨vs,hA0,hrun⟩:=jW hW hF hcall hR.1
  have hA:jg G vs args:=by
   rw[←hwk]
   refine⟨by simpa using hA0.1,fun i c hc=>?_⟩
   rw[List.getElem?_map]at hc
   cases hq:args0[i]? with
   |none=>simp[hq]at hc
   |some c0 =>
    simp[hq]at hc;subst hc
    exact qH c0 _ _ (hA0.2 i c0 hq)
  have hp:kY [] H=some (([]:List aM).map (aM.ren [])):=rfl
  have hWc:=hW.callee (ρ:=[]) (Hc:=[]) (by simp) hp rfl
  have hAc:jg (G.callee w H []) vs args:=by
   refine⟨hA.1,fun i c hc=>?_⟩
   have e:args=AV.iI [] args:=(lZ _ hab).symm
   have hc2:(AV.iI [] args)[i]?=some (AV.ren [] c):=by rw[dJ,List.getElem?_map,hc];rfl
   rw[e]at hA
   exact bw.pq (G:=G) (G':=G.callee w H []) (dC.refl G.imm) (fun i id h=>fM h) (fun i id n h=>gM h) c _ (dX hab hc) (hA.2 i _ hc2)
  have hcalls:=hR.2 _ w vs hWc hAc
  unfold wpOp
  simp only[ho]
  rw[if_pos (bS hF hw)]
  refine .inl ?_
  unfold Oper.wp
  rw[hrun w]
  refine hcalls.mono ?_
  rintro e w' ⟨v,r,Hc',Gc',rfl,⟨rfl,rfl⟩,hlen',hle,hv,hWc'⟩
  obtain⟨b1,b2,b3,b4,b5⟩:=hW.back (by simp) (by simp) rfl hlen' hle hWc'
  have hbase:Gc'.base=w:=hle.base
  have hkb':∀b,b<w.heap.size→w'.heap[b]?=w.heap[b]?:=fun b hb=>by
   have:=(hWc'.old b (by rw[hbase];exact hb) (fun hn=>by
    rw[hle.own0]at hn
    obtain⟨id,o',hm,_⟩:=hn
    simp at hm)).1
   rwa [hbase]at this
  have hsz':w.heap.size≤w'.heap.size:=by have:=hWc'.size;rwa [hbase]at this
  have hk2:Yet m (cF all.size done)→w0.heap.size≤w'.heap.size∧KB GK [] w0 w':=fun hy=>by
   obtain⟨s1,s2⟩:=hS hy
   exact⟨by omega,fun b hb hid=>(hkb' b (by omega)).trans (s2 b hb hid)⟩
  have hF':cQ (G.back Gc' (names [] H.length Hc'.length)) nt (a.put (some t) v).tmps ((t,r')::env):=by
   rw[hrr]
   exact (hF.up b1 hW.lim).put ht (hv.ren b3 b4 b5)
  rw[←hH]at b2
  have hlH:H.length≤H'.length:=by
   rw[hH,gp (by simp)];simp
  simp only[hd]
  exact⟨fun hy _=>(hk2 hy).2,h G0 _ (a.put (some t) v) w' w0 GK (h0.trans (b1.weaken hl)) (by omega) hF' (by simp[Act.put,hdf]) b2 (fun hy=>hk2 (hy.kS (Nat.le_of_ble_eq_true him))) hcl'⟩
theorem bB.step {all:Array Oper} {ix:List Nat} {m f:Nat} {done:List Nat} {i:Nat} {o:Oper} (ho:all[i]?=some o) (him:Nat.ble m i=true)
  (h:aa Γ nt n0 [.ops all [o]] (vL Γ nt n0 all ix m f (i::done) k Q) env H):bB Γ nt n0 all ix m f i done k Q env H :=
 fun hmem G0 G a w w0 GK h0 hl hF hdf hW hS hcl=>by
  have hmi:=Nat.le_of_ble_eq_true him
  have hcl':=hcl.set (i:=i) hmem
  have his:i<all.size:=(Array.getElem?_eq_some_iff.1 ho).1
  have hny:¬Yet m (cF all.size (i::done)):=fun hy=>by
   have:=hy i hmi
   rw[cF,gL (by rw[ig];exact his)]at this
   cases this
  have hn:=h G0 G a w h0 hl hF hdf hW
  simp only[aX]at hn
  unfold wpOp
  simp only[ho]
  unfold wpList at hn
  have fin:∀a' w',Conc Γ nt n0 G0 (vL Γ nt n0 all ix m f (i::done) k Q) .normal a' w'→eB Γ.P all (aX Γ.P (Conc Γ nt n0 G0 Q) k) (fun w'=>KB GK [] w0 w') m f ((cF all.size done).setIfInBounds i true) a' w':=fun a' w' hc=>by
   obtain⟨G',env',H',c1,c2,c3,c4,c5,c6⟩:=hc
   exact c6 G0 G' a' w' w0 GK c1 c2 c3 c4 c5 (fun hy=>absurd hy hny) hcl'
  have pan:∀c a w,aX Γ.P (Conc Γ nt n0 G0 (vL Γ nt n0 all ix m f (i::done) k Q)) [] (.panic c) a w→aX Γ.P (Conc Γ nt n0 G0 Q) k (.panic c) a w:=fun c a w h=>by
   rw[dD];exact h
  have out:∀a w,aX Γ.P (Conc Γ nt n0 G0 (vL Γ nt n0 all ix m f (i::done) k Q)) [] .outgrown a w→aX Γ.P (Conc Γ nt n0 G0 Q) k .outgrown a w:=fun a w h=>by
   rw[dI];exact h
  split
  ·rename_i hw
   rw[if_pos hw]at hn
   rcases hn with hn|⟨hn,a',w',ho⟩
   ·exact .inl (nA (fun a' w' h'=>⟨fun _ hjm=>absurd hjm (by omega),fin a' w' (by simpa only [wpList,aX]using h')⟩) pan out hn)
   ·exact .inr ⟨hn,a',w',out a' w' ho⟩
  ·rename_i hw
   rw[if_neg hw]at hn
   exact⟨fun _ hjm=>absurd hjm (by omega),fin _ _ (by simpa only [wpList,aX]using hn)⟩
theorem bB.dw {all:Array Oper} {ix:List Nat} {m f:Nat} {done:List Nat} {i:Nat} {o:Oper} (h:aa Γ nt n0 [.ops all [o]] (vL Γ nt n0 all ix m f (i::done) k Q) env H) (ho:all[i]?=some o:=by rfl) (him:Nat.ble m i=true:=by rfl):bB Γ nt n0 all ix m f i done k Q env H:=bB.step ho him h
end
end
section
open Go Go.RowKit
def SI (G:aN) (w:World):Prop:=∀b i,i<(G.imm b).length→w.cell? ⟨b,i,none⟩=some (gv (G.imm b) i)
theorem bH.si {gl:List (Nat×List D)} {G GK:aN} {H:List aM} {w:World} (hW:bH gl G H w) (h:dC GK.imm G.imm):SI GK w:=fun b i hi=>by
 rw[hW.imm b i (Nat.lt_of_lt_of_le hi (h.len b)),h.gv hi]
theorem bH.K8 {gl:List (Nat×List D)} {G:aN} {H:List aM} {w:World} (hW:bH gl G H w) {id:Nat} {cs:List AV} (hh:H[id]?=some (.cells cs)) :
  ∃G' b,GLe H.length G G'∧bH gl G' (H.set id .gone) w∧G.loc id=some b∧DRel G'.imm (.pointer (some ⟨b,0,none⟩)) (.iptr (cs.map AV.oQ)):=by
 obtain⟨b,cur,t,a1,a2,a3,a4,a5,a6⟩:=hW.obj id _ hh
 have hlt:=aJ hh
 have hIm:dC G.imm (fun b'=>if b'=b then cur.toList else G.imm b'):=fun b'=>by
  simp only
  split
  ·rename_i hb;rw[hb,a6];exact List.nil_prefix
  ·exact List.prefix_refl _
 have hle:GLe H.length G { G with imm:=fun b'=>if b'=b then cur.toList else G.imm b' }:=⟨rfl,rfl,rfl,hIm,fun _ _ _ h=>h,fun _ _ _ _ h=>h⟩
 refine⟨_,b,hle,hW.step hle rfl rfl rfl (Nat.le_refl _) id .gone (H.set id .gone) (by simp) (ow hlt) (fun id' hne=>List.getElem?_set_ne (fun e=>hne e.symm)) (fun _ _ _ _=>rfl) ?_ ?_ True.intro (fun b' hb'=>hb'.elim) (fun id' hid'=>hW.lim id' (by simpa using hid')),a1,?_⟩
 ·intro b' hb hnb
  refine⟨rfl,?_⟩
  simp only
  rw[if_neg (fun h=>hnb _ hh (by subst h;exact a1))]
 ·intro b' hb i hi
  simp only at hi ⊢
  by_cases hb':b'=b
  ·subst hb'
   rw[if_pos rfl]at hi ⊢
   rw[cell_of_row w b' i cur t (0,0) a2]
   have:i<cur.size:=by simpa using hi
   simp[gv,List.getD,this]
  ·rw[if_neg hb']at hi ⊢
   exact hW.imm b' i hi
 ·refine .iptr b 0 _ (by simp;omega) (fun c hc=>?_) (fun j c hc=>?_)
  ·obtain⟨c',h1,rfl⟩:=List.mem_map.1 hc
   obtain⟨i,hi⟩:=List.getElem?_of_mem h1
   exact (p9 (a5 i c' hi) (a4 c' h1)).1
  ·rw[List.getElem?_map]at hc
   cases hq:cs[j]? with
   |none=>rw[hq]at hc;cases hc
   |some c' =>
    rw[hq]at hc
    simp only[Option.map_some,Option.some.injEq]at hc
    subst hc
    have hj:=aJ hq
    have h2:=(p9 (a5 j c' hq) (a4 c' (List.mem_of_getElem? hq))).2.mono hIm
    simpa[gv,List.getD,show j<cur.size by omega]using h2
section
variable {Γ:Ctx} {nt n0:Nat} {k:List It} {Q:Post} {env:Env} {H:List aM}
theorem aa.K8 (id t:Nat) {cs:List AV} (ht:env.get t = .ptr id 0) (hh:hget H id=some (.cells cs)) (h:aa Γ nt n0 k Q ((t, .d (.iptr (cs.map AV.oQ)))::env) (H.set id .gone)):aa Γ nt n0 k Q env H :=
 fun G0 G a w h0 hl hF hdf hW=>by
  rw[di]at hh
  obtain⟨G',b,g1,g2,g3,g4⟩:=hW.K8 hh
  have hv:=hF.rel t
  rw[ht]at hv
  refine h G0 G' a w (h0.trans (g1.weaken hl)) (by simpa using hl) ((hF.up g1 hW.lim).over ?_) hdf g2
  generalize a.tmps.getD t undef=v at hv ⊢
  cases hv with
  |ptr b' _ _ hb =>
   rw[g3]at hb;cases hb
   exact .d _ _ g4
def jC (Γ:Ctx) (nt n0:Nat) (all:Array Oper) (ix:List Nat) (f:Nat) (done:List Nat) (k:List It) (Q:Post) (env:Env) (H:List aM):Prop :=
 ∀G0 G a w,GLe n0 G0 G→n0≤H.length→cQ G nt a.tmps env→a.defers=[]→bH Γ.gl G H w→Closed all (cF all.size done)→eB Γ.P all (aX Γ.P (Conc Γ nt n0 G0 Q) k) (SI G) all.size f (cF all.size done) a w
def gI (Γ:Ctx) (nt n0:Nat) (all:Array Oper) (ix:List Nat) (f:Nat) (done:List Nat) (k:List It) (Q:Post) (env:Env) (H:List aM):Prop :=
 ∀G0 G a w (GK:aN),GLe n0 G0 G→n0≤H.length→cQ G nt a.tmps env→a.defers=[]→bH Γ.gl G H w→dC GK.imm G.imm→Closed all (cF all.size done)→eB Γ.P all (aX Γ.P (Conc Γ nt n0 G0 Q) k) (SI GK) all.size f (cF all.size done) a w
def jN (Γ:Ctx) (nt n0:Nat) (all:Array Oper) (ix:List Nat) (f i:Nat) (done:List Nat) (k:List It) (Q:Post) (env:Env) (H:List aM):Prop :=
 i∈Region.ready .any all (cF all.size done)→∀G0 G a w (GK:aN),GLe n0 G0 G→n0≤H.length→cQ G nt a.tmps env→a.defers=[]→bH Γ.gl G H w→dC GK.imm G.imm→Closed all (cF all.size done) →
  wpOp Γ.P all (aX Γ.P (Conc Γ nt n0 G0 Q) k) i (fun a' w'=>(Yet all.size (cF all.size done)→i<all.size→SI GK w')∧eB Γ.P all (aX Γ.P (Conc Γ nt n0 G0 Q) k) (SI GK) all.size f ((cF all.size done).setIfInBounds i true) a' w') a w
theorem jC.go {all:Array Oper} {ix:List Nat} {f:Nat} {done:List Nat} (h:gI Γ nt n0 all ix f done k Q env H):jC Γ nt n0 all ix f done k Q env H :=
 fun G0 G a w h0 hl hF hdf hW hcl=>h G0 G a w G h0 hl hF hdf hW (dC.refl _) hcl
theorem aa.NF {id:Nat} {all:Array Oper} (ix:List Nat) (f:Nat) (hf:all.size=f) (h:jC Γ nt n0 all ix f [] k Q env H):aa Γ nt n0 (.code (.region id all true)::k) Q env H :=
 fun G0 G a w h0 hl hF hdf hW=>by
  have hW':bH Γ.gl G H { w with drawn:=w.drawn+1 }:=hW.same rfl rfl rfl rfl
  simp only[aX]
  subst hf
  refine wp_region_any Γ.mixed (jD (S:=SI G) (m:=all.size) _ _ _ _ ?_)
  exact h G0 G a _ h0 hl hF hdf hW' (fun j oj _ hl2=>by rw[cF,getD_replicate_false]at hl2;cases hl2)
theorem jC.bi {all:Array Oper} {ix:List Nat} {f:Nat} {done:List Nat} {i:Nat} {o:Oper} {t:Nat} {v:AV} (hi:jo all.toList ix done=some (i,o)) (hx:aQ Γ nt env H o v) (hnp:fB Q) (ho:all[i]?=some o) (hw:bN all env o=some true) (hd:o.dst=some t) (ht:Nat.ble (t+1) nt=true) (him:Nat.ble (i+1) all.size=true)
  (hr:(Region.ready .any all (cF all.size done)).contains i=true) (hfree:(Region.free .any all (cF all.size done) i&&Region.noSelect all)=true)
  (h:jC Γ nt n0 all ix f (i::done) k Q ((t,v)::env) H):jC Γ nt n0 all ix (f+1) done k Q env H :=
 fun G0 G a w h0 hl hF hdf hW hcl=>by
  rw[Bool.and_eq_true]at hfree
  have hr':i∈Region.ready .any all (cF all.size done):=by simpa using hr
  have hcl':=hcl.set hr'
  obtain⟨u,hu,hall⟩:=hx G a w hW hF
  exact aO.lg (G:=G) i hnp ho him (Nat.ble_eq_true_of_le (Nat.le_refl _)) hr hfree.1 hfree.2 hcl (fun _=>hW.si (dC.refl _)) (.inl ⟨bS hF hw,fun w' _=>hall w'⟩) (h G0 G _ w h0 hl (by rw[hd];exact hF.put ht hu) (bU a _ u hdf) hW hcl')
theorem jC.load {all:Array Oper} {ix:List Nat} {f:Nat} {done:List Nat} {i:Nat} {o:Oper} {t T:Nat} {y:Operand} {ti:TI} {cs:List D} {x:D} (hi:uO all.toList ix done=some (i,o)) (hop:o.op = .load T y) (hT:bg Γ.T T=some ti) (hy:ev Γ env y = .d (.iptr cs)) (hv:iB ti cs 0=some x)
  (hnp:fB Q) (ho:all[i]?=some o) (hw:bN all env o=some true) (hd:o.dst=some t) (ht:Nat.ble (t+1) nt=true) (him:Nat.ble (i+1) all.size=true)
  (hr:(Region.ready .any all (cF all.size done)).contains i=true) (hfree:(Region.free .any all (cF all.size done) i&&Region.noSelect all)=true)
  (h:jC Γ nt n0 all ix f (i::done) k Q ((t, .d x)::env) H):jC Γ nt n0 all ix (f+1) done k Q env H :=
 fun G0 G a w h0 hl hF hdf hW hcl=>by
  rw[Bool.and_eq_true]at hfree
  have hr':i∈Region.ready .any all (cF all.size done):=by simpa using hr
  have hcl':=hcl.set hr'
  have hval:∃u,bw G u (.d x)∧∀w',SI G w'→(execOp a.eval o).run Γ.P w' = .ok (.value u) w':=by
   have hx:=bJ hW hF y
   rw[hy]at hx
   obtain⟨ff⟩:=Γ.ty hT
   generalize hxe:a.eval y=yv at hx
   cases hx with
   |d _ _ hd' =>
    cases hd' with
    |iptr b o' _ hin hone hcell =>
     obtain⟨r,hr1,hr2⟩:=qB (G:=G) (b:=b) (o:=o') (us:=(G.imm b).drop o') ff hone (fun i c hc=>by
      have:=hcell i c hc
      simpa[gv,List.getD]using this) hv
     refine⟨r,hr1,fun w' hb=>?_⟩
     have:=hr2 w' (fun i hi=>by rw[hb b (o'+i) (by omega)];simp[gv,List.getD])
     unfold execOp
     simp only[hop,hxe]
     simp only[Nat.add_zero]at this
     simp[this]
  obtain⟨u,hu,hall⟩:=hval
  refine eF (Si:=SI G) ho (Nat.le_of_ble_eq_true him) (Nat.le_refl _) (Region.noSelect_spec hfree.2) (Gh hnp) (fun _ h=>h) (.inr fun j hj hjs=>absurd hjs (by omega)) f _ a w (ig _ _) hcl (Region.free_spec ho hfree.1) hr'
   (.inl ⟨bS hF hw,fun w' hb=>hall w' hb⟩) (hW.si (dC.refl _)) (fun _=>hW.si (dC.refl _)) (h G0 G _ w h0 hl (by rw[hd];exact hF.put ht hu) (bU a _ u hdf) hW hcl')
theorem jC.cf {all:Array Oper} {ix:List Nat} {f:Nat} {done:List Nat} {i:Nat} {o:Oper} {t T:Nat} {y:Operand} {ti:TI} {cs:List D} {x:D} (h:jC Γ nt n0 all ix f (i::done) k Q ((t, .d x)::env) H) (hi:uO all.toList ix done=some (i,o):=by rfl) (hop:o.op = .load T y:=by rfl) (hT:bg Γ.T T=some ti:=by rfl) (hy:ev Γ env y = .d (.iptr cs):=by rfl) (hv:iB ti cs 0=some x:=by rfl) (hnp:fB Q:=by exact fun _ _ _ h=>h) (ho:all[i]?=some o:=by rfl) (hw:bN all env o=some true:=by rfl) (hd:o.dst=some t:=by rfl) (ht:Nat.ble (t+1) nt=true:=by rfl) (him:Nat.ble (i+1) all.size=true:=by rfl) (hr:(Region.ready .any all (cF all.size done)).contains i=true:=by kernel_rfl) (hfree:(Region.free .any all (cF all.size done) i&&Region.noSelect all)=true:=by kernel_rfl):jC Γ nt n0 all ix (f+1) done k Q env H:=jC.load hi hop hT hy hv hnp ho hw hd ht him hr hfree h
theorem gI.fin {all:Array Oper} {ix:List Nat} {done:List Nat} (hr:(Region.ready .any all (cF all.size done)).isEmpty=true) (h:aa Γ nt n0 k Q env H):gI Γ nt n0 all ix 0 done k Q env H :=
 fun G0 G a w GK h0 hl hF hdf hW _ _=>⟨by simpa using hr,h G0 G a w h0 hl hF hdf hW⟩
theorem gI.bQ {all:Array Oper} {ix:List Nat} {done:List Nat} (h:aa Γ nt n0 k Q env H) (hr:(Region.ready .any all (cF all.size done)).isEmpty=true:=by kernel_rfl):gI Γ nt n0 all ix 0 done k Q env H:=gI.fin hr h
theorem gI.bi {all:Array Oper} {ix:List Nat} {f:Nat} {done:List Nat} {i:Nat} {o:Oper} {t:Nat} {v:AV} (hi:jo all.toList ix done=some (i,o)) (hx:aQ Γ nt env H o v) (hnp:fB Q) (ho:all[i]?=some o) (hw:bN all env o=some true) (hd:o.dst=some t) (ht:Nat.ble (t+1) nt=true) (him:Nat.ble (i+1) all.size=true)
  (hr:(Region.ready .any all (cF all.size done)).contains i=true) (hfree:(Region.free .any all (cF all.size done) i&&Region.noSelect all)=true)
  (h:gI Γ nt n0 all ix f (i::done) k Q ((t,v)::env) H):gI Γ nt n0 all ix (f+1) done k Q env H :=
 fun G0 G a w GK h0 hl hF hdf hW hS hcl=>by
  rw[Bool.and_eq_true]at hfree
  have hr':i∈Region.ready .any all (cF all.size done):=by simpa using hr
  have hcl':=hcl.set hr'
  obtain⟨u,hu,hall⟩:=hx G a w hW hF
  exact aO.lg (G:=G) i hnp ho him (Nat.ble_eq_true_of_le (Nat.le_refl _)) hr hfree.1 hfree.2 hcl (fun _=>hW.si hS) (.inl ⟨bS hF hw,fun w' _=>hall w'⟩) (h G0 G _ w GK h0 hl (by rw[hd];exact hF.put ht hu) (bU a _ u hdf) hW hS hcl')
theorem gI.He {all:Array Oper} {ix:List Nat} {f:Nat} {done:List Nat} {i:Nat} {o:Oper} (hL:fE all.toList ix done=[(i,o)]) (hr:decide (Region.ready .any all (cF all.size done)=[i])=true)
  (h1:jN Γ nt n0 all ix f i done k Q env H):gI Γ nt n0 all ix (f+1) done k Q env H :=
 fun G0 G a w GK h0 hl hF hdf hW hS hcl=>by
  have hr':=of_decide_eq_true hr
  refine⟨fun h=>(by rw[hr']at h;cases h),fun x hx=>?_⟩
  have hx':=hx
  rw[hr']at hx'
  simp only[List.mem_cons,List.not_mem_nil,or_false]at hx'
  subst hx'
  exact h1 hx G0 G a w GK h0 hl hF hdf hW hS hcl
theorem gI.kG {all:Array Oper} {ix:List Nat} {f:Nat} {done:List Nat} {i:Nat} {o:Oper} (h1:jN Γ nt n0 all ix f i done k Q env H) (hL:fE all.toList ix done=[(i,o)]:=by rfl) (hr:decide (Region.ready .any all (cF all.size done)=[i])=true:=by kernel_rfl):gI Γ nt n0 all ix (f+1) done k Q env H:=gI.He hL hr h1
theorem gI.iC {all:Array Oper} {ix:List Nat} {f:Nat} {done:List Nat} {i j:Nat} {o p:Oper} (hL:fE all.toList ix done=[(i,o),(j,p)]) (hr:decide (Region.ready .any all (cF all.size done)=[i,j])=true)
  (h1:jN Γ nt n0 all ix f i done k Q env H) (h2:jN Γ nt n0 all ix f j done k Q env H):gI Γ nt n0 all ix (f+1) done k Q env H :=
 fun G0 G a w GK h0 hl hF hdf hW hS hcl=>by
  have hr':=of_decide_eq_true hr
  refine⟨fun h=>(by rw[hr']at h;cases h),fun x hx=>?_⟩
  have hx':=hx
  rw[hr']at hx'
  simp only[List.mem_cons,List.not_mem_nil,or_false]at hx'
  rcases hx' with rfl|rfl
  ·exact h1 hx G0 G a w GK h0 hl hF hdf hW hS hcl
  ·exact h2 hx G0 G a w GK h0 hl hF hdf hW hS hcl
theorem gI.Dh {all:Array Oper} {ix:List Nat} {f:Nat} {done:List Nat} {i j l:Nat} {o p q:Oper} (hL:fE all.toList ix done=[(i,o),(j,p),(l,q)]) (hr:decide (Region.ready .any all (cF all.size done)=[i,j,l])=true)
  (h1:jN Γ nt n0 all ix f i done k Q env H) (h2:jN Γ nt n0 all ix f j done k Q env H) (h3:jN Γ nt n0 all ix f l done k Q env H):gI Γ nt n0 all ix (f+1) done k Q env H :=
 fun G0 G a w GK h0 hl hF hdf hW hS hcl=>by
  have hr':=of_decide_eq_true hr
  refine⟨fun h=>(by rw[hr']at h;cases h),fun x hx=>?_⟩
  have hx':=hx
  rw[hr']at hx'
  simp only[List.mem_cons,List.not_mem_nil,or_false]at hx'
  rcases hx' with rfl|rfl|rfl
  ·exact h1 hx G0 G a w GK h0 hl hF hdf hW hS hcl
  ·exact h2 hx G0 G a w GK h0 hl hF hdf hW hS hcl
  ·exact h3 hx G0 G a w GK h0 hl hF hdf hW hS hcl
def EX (Γ:Ctx) (nt n0:Nat) (all:Array Oper) (ix:List Nat) (f:Nat) (done:List Nat) (k:List It) (Q:Post):Post
 | .normal,env,H=>gI Γ nt n0 all ix f done k Q env H
 | .panic c,env,H=>Q (.panic c) env H
 | .outgrown,env,H=>Q .outgrown env H
 |_,_,_=>False
theorem gI.back {all:Array Oper} {ix:List Nat} {f:Nat} {done:List Nat} (h:gI Γ nt n0 all ix f done k Q env H):aa Γ nt n0 [] (EX Γ nt n0 all ix f done k Q) env H:=aa.done h
theorem jN.step {all:Array Oper} {ix:List Nat} {f:Nat} {done:List Nat} {i:Nat} {o:Oper} (ho:all[i]?=some o)
  (h:aa Γ nt n0 [.ops all [o]] (EX Γ nt n0 all ix f (i::done) k Q) env H):jN Γ nt n0 all ix f i done k Q env H :=
 fun hmem G0 G a w GK h0 hl hF hdf hW hS hcl=>by
  have hcl':=hcl.set (i:=i) hmem
  have his:i<all.size:=(Array.getElem?_eq_some_iff.1 ho).1
  have hn:=h G G a w (GLe.refl _ _) hl hF hdf hW
  simp only[aX]at hn
  unfold wpOp
  simp only[ho]
  unfold wpList at hn
  have fin:∀a' w',Conc Γ nt n0 G (EX Γ nt n0 all ix f (i::done) k Q) .normal a' w'→SI GK w'∧eB Γ.P all (aX Γ.P (Conc Γ nt n0 G0 Q) k) (SI GK) all.size f ((cF all.size done).setIfInBounds i true) a' w':=fun a' w' hc=>by
   obtain⟨G',env',H',c1,c2,c3,c4,c5,c6⟩:=hc
   exact⟨c5.si (hS.trans c1.imm),c6 G0 G' a' w' GK (h0.trans c1) c2 c3 c4 c5 (hS.trans c1.imm) hcl'⟩
  have pan:∀c a w,aX Γ.P (Conc Γ nt n0 G (EX Γ nt n0 all ix f (i::done) k Q)) [] (.panic c) a w→aX Γ.P (Conc Γ nt n0 G0 Q) k (.panic c) a w:=fun c a w h=>by
   rw[dD]
   obtain⟨G',env',H',c1,c2,c3,c4,c5,c6⟩:=h
   exact⟨G',env',H',h0.trans c1,c2,c3,c4,c5,c6⟩
  have out:∀a w,aX Γ.P (Conc Γ nt n0 G (EX Γ nt n0 all ix f (i::done) k Q)) [] .outgrown a w→aX Γ.P (Conc Γ nt n0 G0 Q) k .outgrown a w:=fun a w h=>by
   rw[dI]
   obtain⟨G',env',H',c1,c2,c3,c4,c5,c6⟩:=h
   exact⟨G',env',H',h0.trans c1,c2,c3,c4,c5,c6⟩
  split
  ·rename_i hw
   rw[if_pos hw]at hn
   rcases hn with hn|⟨hn,a',w',ho⟩
   ·exact .inl (nA (fun a' w' h'=>by
     have:=fin a' w' (by simpa only [wpList,aX]using h')
     exact⟨fun _ _=>this.1,this.2⟩) pan out hn)
   ·exact .inr ⟨hn,a',w',out a' w' ho⟩
  ·rename_i hw
   rw[if_neg hw]at hn
   have:=fin _ _ (by simpa only [wpList,aX]using hn)
   exact⟨fun _ _=>this.1,this.2⟩
theorem jN.dw {all:Array Oper} {ix:List Nat} {f:Nat} {done:List Nat} {i:Nat} {o:Oper} (h:aa Γ nt n0 [.ops all [o]] (EX Γ nt n0 all ix f (i::done) k Q) env H) (ho:all[i]?=some o:=by rfl):jN Γ nt n0 all ix f i done k Q env H:=jN.step ho h
def Ie (e1:Env) (H1:List aM) (e2:Env) (H2:List aM):Post
 | .normal,env,H=>(bz env e1 e1∧H=H1)∨(bz env e2 e2∧H=H2)
 |_,_,_=>False
theorem aa.Nq {e2:Env} {H2:List aM}:aa Γ nt n0 [] (Ie env H e2 H2) env H:=aa.done (.inl ⟨bz.refl env env,rfl⟩)
theorem aa.Np {e1:Env} {H1:List aM}:aa Γ nt n0 [] (Ie e1 H1 env H) env H:=aa.done (.inr ⟨bz.refl env env,rfl⟩)
theorem aa.Mi {id:Nat} {all:Array Oper} {e1 e2:Env} {H1 H2:List aM} (ix:List Nat) (f:Nat) (hf:all.size=f) (h:jC Γ nt n0 all ix f [] [] (Ie e1 H1 e2 H2) env H) (h1:aa Γ nt n0 k Q e1 H1) (h2:aa Γ nt n0 k Q e2 H2):aa Γ nt n0 (.code (.region id all true)::k) Q env H :=
 fun G0 G a w h0 hl hF hdf hW=>by
  have hn:=aa.NF (id:=id) ix f hf h G0 G a w h0 hl hF hdf hW
  simp only[aX]at hn ⊢
  refine wp_mono hn fun e a' w' hq=>?_
  obtain⟨G',env1,H1',c1,c2,c3,c4,c5,c6⟩:=hq
  cases e with
  |normal =>
   rcases c6 with⟨c7,rfl⟩|⟨c7,rfl⟩
   ·exact h1 G0 G' a' w' c1 c2 (c7.LZ c3) c4 c5
   ·exact h2 G0 G' a' w' c1 c2 (c7.LZ c3) c4 c5
  |_=>exact c6.elim
end
end
section
open Go Go.RowKit
section
variable {Γ:Ctx} {nt n0:Nat} {k:List It} {Q:Post} {env:Env} {H:List aM}
theorem xE {o:Oper} {T T' e n:Nat} {k:IntKind} {xs ys:List Int} {cs ds:List D} {ti te:TI} {x y:Operand} (hop:o.op = .binOp .neq T x y T') (hx:ev Γ env x = .d (.agg cs)) (hy:ev Γ env y = .d (.agg ds))
  (hT:bg Γ.T T=some ti) (hsh:ti.sh = .array n e) (hE:bg Γ.T e=some te) (hesh:te.sh = .int k) (hag:te.agg=false) (h1:iX k cs=some xs) (h2:iX k ds=some ys)
  (hn:xs.length=n) (hm:ys.length=n):dm Γ nt env H o (.d (.bool (!decide (xs=ys)))):=by
 intro G a w hW hF
 refine⟨_, .d _ _ (.bool _),fun w' hb=>?_⟩
 have e1:=bJ hW hF x
 have e2:=bJ hW hF y
 rw[hx]at e1
 rw[hy]at e2
 have v1:=Ae e1 h1
 have v2:=Ae e2 h2
 obtain⟨g1,_,g2⟩:=BW (op := .neq) (x:=x) (y:=y) hT hsh hE hesh hag hn hm w'
 unfold execOp
 simp[hop,v1,v2,g1,g2]
end
section
open Go Go.RowKit
variable {Γ:Ctx} {nt n0:Nat} {k:List It} {Q:Post} {env:Env} {H:List aM}
theorem bB.aH {all:Array Oper} {ix:List Nat} {m f fn:Nat} {done:List Nat} {i:Nat} {o:Oper} {t:Nat} {args0 args:List AV} {X r':AV} {Y H':List aM} (hR:ACalls Γ fn args [] (fun r H=>r=X∧H=Y)) {bb:Prop} (h:bb) (ho:all[i]?=some o:=by rfl) (hcall:dR Γ env o.op=some (fn,args0):=by rfl) (hwk:args0.map fgt=args:=by rfl) (hw:bN all env o=some true:=by rfl) (hd:o.dst=some t:=by rfl) (ht:Nat.ble (t+1) nt=true:=by rfl) (hab:AV.dA 0 args=true:=by rfl) (him:Nat.ble (i+1) m=true:=by rfl) (hrr:r'=AV.ren (names [] H.length Y.length) X:=by rfl) (hH:H'=gm [] (Y.map (aM.ren (names [] H.length Y.length))) H:=by rfl) (hbb:bb→aC Γ nt n0 all ix m f (i::done) k Q ((t,r')::env) H':=by intro k;(try simp only[ny,nh,Nat.reduceAdd,Nat.reduceSub]);exact k):bB Γ nt n0 all ix m f i done k Q env H:=bB.call hR ho hcall hwk hw hd ht hab him hrr hH (hbb h)
end
section
open Go Go.RowKit
variable {Γ:Ctx} {nt n0:Nat} {k:List It} {Q:Post} {env:Env} {H:List aM}
theorem aa.FK (id:Nat) (t:Nat) {cs:List AV} {bb:Prop} (h:bb) (ht:env.get t = .ptr id 0:=by rfl) (hh:hget H id=some (.cells cs):=by rfl) (hbb:bb→aa Γ nt n0 k Q ((t, .d (.iptr (cs.map AV.oQ)))::env) (H.set id .gone):=by intro k;simp only[List.map,AV.oQ,List.set_cons_zero,List.set_cons_succ];exact k):aa Γ nt n0 k Q env H:=aa.K8 id t ht hh (hbb h)
end
end
end Go.Proofs.YtbpednchkndocaaGreatDoor.Av
