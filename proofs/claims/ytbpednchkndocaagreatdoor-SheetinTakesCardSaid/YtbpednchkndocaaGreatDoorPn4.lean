/- Labels that nothing jumps to. Regions that draw their order: an empty slice written out among the steps that keep what there was. Regions that draw their order: two or three steps that may come up in any order behind the reads. Regions that draw their order: what nobody writes is read ahead of all; then all orders. Arrays of whole numbers: unlike. -/
import Derived.Test.YtbpednchkndocaaGreatDoorPn3
import Derived.Scope
set_option linter.unusedVariables false
set_option linter.unusedSimpArgs false
set_option maxRecDepth 100000
set_option maxHeartbeats 64000000
namespace Go.Proofs.YtbpednchkndocaaGreatDoor.Av
section
open Go Go.RowKit
theorem jc {P:Program} {Q':Exit→Act→World→Prop} {l:Nat}:∀(k:List It) (a:Act) (w:World),aF P Q' k (.goto l) a w=Q' (.goto l) a w
 |[],_,_=>rfl
 | .blk j::k,a,w=>by simp only[aF];exact jc k a w
 | .code _::k,a,w=>by simp only[aF];exact jc k a w
 | .ops _ _::k,a,w=>by simp only[aF];exact jc k a w
 | .qops _ _::k,a,w=>by simp only[aF];exact jc k a w
 | .sops _ _::k,a,w=>by simp only[aF];exact jc k a w
 | .lp _::k,a,w=>by simp only[aF];exact jc k a w
section
variable {Γ:Ctx} {nt n0:Nat} {k:List It} {Q:Post} {env:Env} {H:List au}
theorem aa.label {l:Nat} (h:aa Γ nt n0 k Q env H):aa Γ nt n0 (.code (.label l)::k) Q env H :=
 fun G0 G a w h0 hl hF hdf hW=>by
  simp only[aF]
  exact wp_label (h G0 G a w h0 hl hF hdf hW)
theorem aa.scope {c:Code} (hng:∀l env H,¬Q (.goto l) env H) (h:aa Γ nt n0 (.code c::k) Q env H):aa Γ nt n0 (.code (.scope c)::k) Q env H :=
 fun G0 G a w h0 hl hF hdf hW=>by
  have hn:=h G0 G a w h0 hl hF hdf hW
  simp only[aF]at hn ⊢
  refine wp_scope_straight (wp_mono hn fun e a' w' hq=>?_)
  cases e with
  |goto l =>
   rw[jc]at hq
   obtain⟨_,env',H',_,_,_,_,_,hq⟩:=hq
   exact (hng l env' H' hq).elim
  |_=>exact hq
theorem aa.IK {c:Code} (h:aa Γ nt n0 (.code c::k) Q env H) (hng:∀l env H,¬Q (.goto l) env H:=by exact fun _ _ _ h=>h):aa Γ nt n0 (.code (.scope c)::k) Q env H:=aa.scope hng h
theorem aa.jZ {fn:Func} {R:AV→List au→Prop} {r:AV} {I:Nat→Env→List au→Prop} {n:Nat} {K:List It} (r':AV) (hr:dO Γ env H fn.results.toList=some r) (hw:aD r r') (hl:Nat.ble n0 H.length=true) (hb:r'.bnd n0=true)
  (ho:cJ n0 (H.take n0)=true) (h:R r' (H.take n0)):aa Γ nt n0 (.code .ret::k) (cQ Γ nt n0 I n K (mf Γ fn n0 R)) env H:=aa.ret (Q:=cQ Γ nt n0 I n K (mf Γ fn n0 R)) (Fin.mk' hr hw hl hb ho h)
end
end
section
open Go Go.RowKit
section
variable {Γ:Ctx} {nt n0:Nat} {k:List It} {Q:Post} {env:Env} {H:List au}
end
end
section
open Go Go.RowKit
section
variable {Γ:Ctx} {nt n0:Nat} {k:List It} {Q:Post} {env:Env} {H:List au}
def aN (Γ:Ctx) (nt n0:Nat) (all:Array Oper) (ix:List Nat) (m f i:Nat) (done:List Nat) (k:List It) (Q:Post) (env:Env) (H:List au):Prop :=
 i∈Region.ready .any all (bK all.size done)→∀G0 G a w (w0:World) (GK:az),GLe n0 G0 G→n0≤H.length→bS G nt a.tmps env→a.defers=[]→aU Γ.gl G H w→(Yet m (bK all.size done)→w0.heap.size≤w.heap.size∧KB GK [] w0 w)→Closed all (bK all.size done) →
  wpOp Γ.P all (aF Γ.P (Conc Γ nt n0 G0 Q) k) i (fun a' w'=>(Yet m (bK all.size done)→i<m→KB GK [] w0 w')∧dD Γ.P all (aF Γ.P (Conc Γ nt n0 G0 Q) k) (fun w'=>KB GK [] w0 w') m f ((bK all.size done).setIfInBounds i true) a' w') a w
theorem ai.gJ {all:Array Oper} {ix:List Nat} {m f:Nat} {done:List Nat} {i j:Nat} {o p:Oper} (hL:dZ all.toList ix done=[(i,o),(j,p)]) (hr:decide (Region.ready .any all (bK all.size done)=[i,j])=true)
  (h1:aN Γ nt n0 all ix m f i done k Q env H) (h2:aN Γ nt n0 all ix m f j done k Q env H):ai Γ nt n0 all ix m (f+1) done k Q env H :=
 fun G0 G a w w0 GK h0 hl hF hdf hW hS hcl=>by
  have hr':=of_decide_eq_true hr
  refine⟨fun h=>(by rw[hr']at h;cases h),fun x hx=>?_⟩
  have hx':=hx
  rw[hr']at hx'
  simp only[List.mem_cons,List.not_mem_nil,or_false]at hx'
  rcases hx' with rfl|rfl
  ·exact h1 hx G0 G a w w0 GK h0 hl hF hdf hW hS hcl
  ·exact h2 hx G0 G a w w0 GK h0 hl hF hdf hW hS hcl
theorem ai.CL {all:Array Oper} {ix:List Nat} {m f:Nat} {done:List Nat} {i j l:Nat} {o p q:Oper} (hL:dZ all.toList ix done=[(i,o),(j,p),(l,q)]) (hr:decide (Region.ready .any all (bK all.size done)=[i,j,l])=true)
  (h1:aN Γ nt n0 all ix m f i done k Q env H) (h2:aN Γ nt n0 all ix m f j done k Q env H) (h3:aN Γ nt n0 all ix m f l done k Q env H):ai Γ nt n0 all ix m (f+1) done k Q env H :=
 fun G0 G a w w0 GK h0 hl hF hdf hW hS hcl=>by
  have hr':=of_decide_eq_true hr
  refine⟨fun h=>(by rw[hr']at h;cases h),fun x hx=>?_⟩
  have hx':=hx
  rw[hr']at hx'
  simp only[List.mem_cons,List.not_mem_nil,or_false]at hx'
  rcases hx' with rfl|rfl|rfl
  ·exact h1 hx G0 G a w w0 GK h0 hl hF hdf hW hS hcl
  ·exact h2 hx G0 G a w w0 GK h0 hl hF hdf hW hS hcl
  ·exact h3 hx G0 G a w w0 GK h0 hl hF hdf hW hS hcl
theorem aN.call {all:Array Oper} {ix:List Nat} {m f fn:Nat} {done:List Nat} {i:Nat} {o:Oper} {t:Nat} {args0 args:List AV} {X r':AV} {Y H':List au} (hR:ACalls Γ fn args [] (fun r H=>r=X∧H=Y)) (ho:all[i]?=some o) (hcall:cZ Γ env o.op=some (fn,args0)) (hwk:args0.map fgt=args) (hw:aZ all env o=some true) (hd:o.dst=some t) (ht:Nat.ble (t+1) nt=true)
  (hab:AV.cA 0 args=true) (him:Nat.ble (i+1) m=true) (hrr:r'=AV.ren (names [] H.length Y.length) X) (hH:H'=eY [] (Y.map (au.ren (names [] H.length Y.length))) H)
  (h:ai Γ nt n0 all ix m f (i::done) k Q ((t,r')::env) H'):aN Γ nt n0 all ix m f i done k Q env H :=
 fun hmem G0 G a w w0 GK h0 hl hF hdf hW hS hcl=>by
  have hcl':=hcl.set (i:=i) hmem
  obtain⟨vs,hA0,hrun⟩:=jr hW hF hcall hR.1
  have hA:iF G vs args:=by
   rw[←hwk]
   refine⟨by simpa using hA0.1,fun i c hc=>?_⟩
   rw[List.getElem?_map]at hc
   cases hq:args0[i]? with
   |none=>simp[hq]at hc
   |some c0 =>
    simp[hq]at hc;subst hc
    exact p6 c0 _ _ (hA0.2 i c0 hq)
  have hp:j5 [] H=some (([]:List au).map (au.ren [])):=rfl
  have hWc:=hW.callee (ρ:=[]) (Hc:=[]) (by simp) hp rfl
  have hAc:iF (G.callee w H []) vs args:=by
   refine⟨hA.1,fun i c hc=>?_⟩
   have e:args=AV.gP [] args:=(kX _ hab).symm
   have hc2:(AV.gP [] args)[i]?=some (AV.ren [] c):=by rw[cN,List.getElem?_map,hc];rfl
   rw[e]at hA
   exact aM.ol (G:=G) (G':=G.callee w H []) (cE.refl G.imm) (fun i id h=>eF h) (fun i id n h=>fJ h) c _ (dx hab hc) (hA.2 i _ hc2)
  have hcalls:=hR.2 _ w vs hWc hAc
  unfold wpOp
  simp only[ho]
  rw[if_pos (bh hF hw)]
  refine .inl ?_
  unfold Oper.wp
  rw[hrun w]
  refine hcalls.mono ?_
  rintro e w' ⟨v,r,Hc',Gc',rfl,⟨rfl,rfl⟩,hlen',hle,hv,hWc'⟩
  obtain⟨b1,b2,b3,b4,b5⟩:=hW.back (by simp) (by simp) rfl hlen' hle hWc'
  have hbase:Gc'.base=w:=hle.base
  have hkb':∀b,b<w.heap.size→w'.heap[b]?=w.heap[b]?:=fun b hb=>by
   have:=(hWc'.old b (by rw[hbase];exact hb) (fun hn=>by
    rw[hle.own0]at hn
    obtain⟨id,o',hm,_⟩:=hn
    simp at hm)).1
   rwa [hbase]at this
  have hsz':w.heap.size≤w'.heap.size:=by have:=hWc'.size;rwa [hbase]at this
  have hk2:Yet m (bK all.size done)→w0.heap.size≤w'.heap.size∧KB GK [] w0 w':=fun hy=>by
   obtain⟨s1,s2⟩:=hS hy
   exact⟨by omega,fun b hb hid=>(hkb' b (by omega)).trans (s2 b hb hid)⟩
  have hF':bS (G.back Gc' (names [] H.length Hc'.length)) nt (a.put (some t) v).tmps ((t,r')::env):=by
   rw[hrr]
   exact (hF.up b1 hW.lim).put ht (hv.ren b3 b4 b5)
  rw[←hH]at b2
  have hlH:H.length≤H'.length:=by
   rw[hH,eZ (by simp)];simp
  simp only[hd]
  exact⟨fun hy _=>(hk2 hy).2,h G0 _ (a.put (some t) v) w' w0 GK (h0.trans (b1.weaken hl)) (by omega) hF' (by simp[Act.put,hdf]) b2 (fun hy=>hk2 (hy.jX (Nat.le_of_ble_eq_true him))) hcl'⟩
theorem aN.step {all:Array Oper} {ix:List Nat} {m f:Nat} {done:List Nat} {i:Nat} {o:Oper} (ho:all[i]?=some o) (him:Nat.ble m i=true)
  (h:aa Γ nt n0 [.ops all [o]] (uY Γ nt n0 all ix m f (i::done) k Q) env H):aN Γ nt n0 all ix m f i done k Q env H :=
 fun hmem G0 G a w w0 GK h0 hl hF hdf hW hS hcl=>by
  have hmi:=Nat.le_of_ble_eq_true him
  have hcl':=hcl.set (i:=i) hmem
  have his:i<all.size:=(Array.getElem?_eq_some_iff.1 ho).1
  have hny:¬Yet m (bK all.size (i::done)):=fun hy=>by
   have:=hy i hmi
   rw[bK,fI (by rw[gh];exact his)]at this
   cases this
  have hn:=h G0 G a w h0 hl hF hdf hW
  simp only[aF]at hn
  unfold wpOp
  simp only[ho]
  unfold wpList at hn
  have fin:∀a' w',Conc Γ nt n0 G0 (uY Γ nt n0 all ix m f (i::done) k Q) .normal a' w'→dD Γ.P all (aF Γ.P (Conc Γ nt n0 G0 Q) k) (fun w'=>KB GK [] w0 w') m f ((bK all.size done).setIfInBounds i true) a' w':=fun a' w' hc=>by
   obtain⟨G',env',H',c1,c2,c3,c4,c5,c6⟩:=hc
   exact c6 G0 G' a' w' w0 GK c1 c2 c3 c4 c5 (fun hy=>absurd hy hny) hcl'
  have pan:∀c a w,aF Γ.P (Conc Γ nt n0 G0 (uY Γ nt n0 all ix m f (i::done) k Q)) [] (.panic c) a w→aF Γ.P (Conc Γ nt n0 G0 Q) k (.panic c) a w:=fun c a w h=>by
   rw[cF];exact h
  have out:∀a w,aF Γ.P (Conc Γ nt n0 G0 (uY Γ nt n0 all ix m f (i::done) k Q)) [] .outgrown a w→aF Γ.P (Conc Γ nt n0 G0 Q) k .outgrown a w:=fun a w h=>by
   rw[cL];exact h
  split
  ·rename_i hw
   rw[if_pos hw]at hn
   rcases hn with hn|⟨hn,a',w',ho⟩
   ·exact .inl (mh (fun a' w' h'=>⟨fun _ hjm=>absurd hjm (by omega),fin a' w' (by simpa only [wpList,aF]using h')⟩) pan out hn)
   ·exact .inr ⟨hn,a',w',out a' w' ho⟩
  ·rename_i hw
   rw[if_neg hw]at hn
   exact⟨fun _ hjm=>absurd hjm (by omega),fin _ _ (by simpa only [wpList,aF]using hn)⟩
theorem aN.cg {all:Array Oper} {ix:List Nat} {m f:Nat} {done:List Nat} {i:Nat} {o:Oper} (h:aa Γ nt n0 [.ops all [o]] (uY Γ nt n0 all ix m f (i::done) k Q) env H) (ho:all[i]?=some o:=by rfl) (him:Nat.ble m i=true:=by rfl):aN Γ nt n0 all ix m f i done k Q env H:=aN.step ho him h
end
end
section
open Go Go.RowKit
def SI (G:az) (w:World):Prop:=∀b i,i<(G.imm b).length→w.cell? ⟨b,i,none⟩=some (gv (G.imm b) i)
theorem aU.si {gl:List (Nat×List D)} {G GK:az} {H:List au} {w:World} (hW:aU gl G H w) (h:cE GK.imm G.imm):SI GK w:=fun b i hi=>by
 rw[hW.imm b i (Nat.lt_of_lt_of_le hi (h.len b)),h.gv hi]
theorem aU.K6 {gl:List (Nat×List D)} {G:az} {H:List au} {w:World} (hW:aU gl G H w) {id:Nat} {cs:List AV} (hh:H[id]?=some (.cells cs)) :
  ∃G' b,GLe H.length G G'∧aU gl G' (H.set id .gone) w∧G.loc id=some b∧DRel G'.imm (.pointer (some ⟨b,0,none⟩)) (.iptr (cs.map AV.nW)):=by
 obtain⟨b,cur,t,a1,a2,a3,a4,a5,a6⟩:=hW.obj id _ hh
 have hlt:=ak hh
 have hIm:cE G.imm (fun b'=>if b'=b then cur.toList else G.imm b'):=fun b'=>by
  simp only
  split
  ·rename_i hb;rw[hb,a6];exact List.nil_prefix
  ·exact List.prefix_refl _
 have hle:GLe H.length G { G with imm:=fun b'=>if b'=b then cur.toList else G.imm b' }:=⟨rfl,rfl,rfl,hIm,fun _ _ _ h=>h,fun _ _ _ _ h=>h⟩
 refine⟨_,b,hle,hW.step hle rfl rfl rfl (Nat.le_refl _) id .gone (H.set id .gone) (by simp) (nG hlt) (fun id' hne=>List.getElem?_set_ne (fun e=>hne e.symm)) (fun _ _ _ _=>rfl) ?_ ?_ True.intro (fun b' hb'=>hb'.elim) (fun id' hid'=>hW.lim id' (by simpa using hid')),a1,?_⟩
 ·intro b' hb hnb
  refine⟨rfl,?_⟩
  simp only
  rw[if_neg (fun h=>hnb _ hh (by subst h;exact a1))]
 ·intro b' hb i hi
  simp only at hi ⊢
  by_cases hb':b'=b
  ·subst hb'
   rw[if_pos rfl]at hi ⊢
   rw[cell_of_row w b' i cur t (0,0) a2]
   have:i<cur.size:=by simpa using hi
   simp[gv,List.getD,this]
  ·rw[if_neg hb']at hi ⊢
   exact hW.imm b' i hi
 ·refine .iptr b 0 _ (by simp;omega) (fun c hc=>?_) (fun j c hc=>?_)
  ·obtain⟨c',h1,rfl⟩:=List.mem_map.1 hc
   obtain⟨i,hi⟩:=List.getElem?_of_mem h1
   exact (oP (a5 i c' hi) (a4 c' h1)).1
  ·rw[List.getElem?_map]at hc
   cases hq:cs[j]? with
   |none=>rw[hq]at hc;cases hc
   |some c' =>
    rw[hq]at hc
    simp only[Option.map_some,Option.some.injEq]at hc
    subst hc
    have hj:=ak hq
    have h2:=(oP (a5 j c' hq) (a4 c' (List.mem_of_getElem? hq))).2.mono hIm
    simpa[gv,List.getD,show j<cur.size by omega]using h2
section
variable {Γ:Ctx} {nt n0:Nat} {k:List It} {Q:Post} {env:Env} {H:List au}
theorem aa.K6 (id t:Nat) {cs:List AV} (ht:env.get t = .ptr id 0) (hh:hget H id=some (.cells cs)) (h:aa Γ nt n0 k Q ((t, .d (.iptr (cs.map AV.nW)))::env) (H.set id .gone)):aa Γ nt n0 k Q env H :=
 fun G0 G a w h0 hl hF hdf hW=>by
  rw[bZ]at hh
  obtain⟨G',b,g1,g2,g3,g4⟩:=hW.K6 hh
  have hv:=hF.rel t
  rw[ht]at hv
  refine h G0 G' a w (h0.trans (g1.weaken hl)) (by simpa using hl) ((hF.up g1 hW.lim).over ?_) hdf g2
  generalize a.tmps.getD t undef=v at hv ⊢
  cases hv with
  |ptr b' _ _ hb =>
   rw[g3]at hb;cases hb
   exact .d _ _ g4
def iW (Γ:Ctx) (nt n0:Nat) (all:Array Oper) (ix:List Nat) (f:Nat) (done:List Nat) (k:List It) (Q:Post) (env:Env) (H:List au):Prop :=
 ∀G0 G a w,GLe n0 G0 G→n0≤H.length→bS G nt a.tmps env→a.defers=[]→aU Γ.gl G H w→Closed all (bK all.size done)→dD Γ.P all (aF Γ.P (Conc Γ nt n0 G0 Q) k) (SI G) all.size f (bK all.size done) a w
def fE (Γ:Ctx) (nt n0:Nat) (all:Array Oper) (ix:List Nat) (f:Nat) (done:List Nat) (k:List It) (Q:Post) (env:Env) (H:List au):Prop :=
 ∀G0 G a w (GK:az),GLe n0 G0 G→n0≤H.length→bS G nt a.tmps env→a.defers=[]→aU Γ.gl G H w→cE GK.imm G.imm→Closed all (bK all.size done)→dD Γ.P all (aF Γ.P (Conc Γ nt n0 G0 Q) k) (SI GK) all.size f (bK all.size done) a w
def jg (Γ:Ctx) (nt n0:Nat) (all:Array Oper) (ix:List Nat) (f i:Nat) (done:List Nat) (k:List It) (Q:Post) (env:Env) (H:List au):Prop :=
 i∈Region.ready .any all (bK all.size done)→∀G0 G a w (GK:az),GLe n0 G0 G→n0≤H.length→bS G nt a.tmps env→a.defers=[]→aU Γ.gl G H w→cE GK.imm G.imm→Closed all (bK all.size done) →
  wpOp Γ.P all (aF Γ.P (Conc Γ nt n0 G0 Q) k) i (fun a' w'=>(Yet all.size (bK all.size done)→i<all.size→SI GK w')∧dD Γ.P all (aF Γ.P (Conc Γ nt n0 G0 Q) k) (SI GK) all.size f ((bK all.size done).setIfInBounds i true) a' w') a w
theorem iW.go {all:Array Oper} {ix:List Nat} {f:Nat} {done:List Nat} (h:fE Γ nt n0 all ix f done k Q env H):iW Γ nt n0 all ix f done k Q env H :=
 fun G0 G a w h0 hl hF hdf hW hcl=>h G0 G a w G h0 hl hF hdf hW (cE.refl _) hcl
theorem aa.NJ {id:Nat} {all:Array Oper} (ix:List Nat) (f:Nat) (hf:all.size=f) (h:iW Γ nt n0 all ix f [] k Q env H):aa Γ nt n0 (.code (.region id all true)::k) Q env H :=
 fun G0 G a w h0 hl hF hdf hW=>by
  have hW':aU Γ.gl G H { w with drawn:=w.drawn+1 }:=hW.same rfl rfl rfl rfl
  simp only[aF]
  subst hf
  refine wp_region_any Γ.mixed (iX (S:=SI G) (m:=all.size) _ _ _ _ ?_)
  exact h G0 G a _ h0 hl hF hdf hW' (fun j oj _ hl2=>by rw[bK,getD_replicate_false]at hl2;cases hl2)
theorem iW.aK {all:Array Oper} {ix:List Nat} {f:Nat} {done:List Nat} {i:Nat} {o:Oper} {t:Nat} {v:AV} (hi:iL all.toList ix done=some (i,o)) (hx:aA Γ nt env H o v) (hnp:dX Q) (ho:all[i]?=some o) (hw:aZ all env o=some true) (hd:o.dst=some t) (ht:Nat.ble (t+1) nt=true) (him:Nat.ble (i+1) all.size=true)
  (hr:(Region.ready .any all (bK all.size done)).contains i=true) (hfree:(Region.free .any all (bK all.size done) i&&Region.noSelect all)=true)
  (h:iW Γ nt n0 all ix f (i::done) k Q ((t,v)::env) H):iW Γ nt n0 all ix (f+1) done k Q env H :=
 fun G0 G a w h0 hl hF hdf hW hcl=>by
  rw[Bool.and_eq_true]at hfree
  have hr':i∈Region.ready .any all (bK all.size done):=by simpa using hr
  have hcl':=hcl.set hr'
  obtain⟨u,hu,hall⟩:=hx G a w hW hF
  exact av.ko (G:=G) i hnp ho him (Nat.ble_eq_true_of_le (Nat.le_refl _)) hr hfree.1 hfree.2 hcl (fun _=>hW.si (cE.refl _)) (.inl ⟨bh hF hw,fun w' _=>hall w'⟩) (h G0 G _ w h0 hl (by rw[hd];exact hF.put ht hu) (bi a _ u hdf) hW hcl')
theorem iW.load {all:Array Oper} {ix:List Nat} {f:Nat} {done:List Nat} {i:Nat} {o:Oper} {t T:Nat} {y:Operand} {ti:TI} {cs:List D} {x:D} (hi:uj all.toList ix done=some (i,o)) (hop:o.op = .load T y) (hT:aJ Γ.T T=some ti) (hy:ev Γ env y = .d (.iptr cs)) (hv:gI ti cs 0=some x)
  (hnp:dX Q) (ho:all[i]?=some o) (hw:aZ all env o=some true) (hd:o.dst=some t) (ht:Nat.ble (t+1) nt=true) (him:Nat.ble (i+1) all.size=true)
  (hr:(Region.ready .any all (bK all.size done)).contains i=true) (hfree:(Region.free .any all (bK all.size done) i&&Region.noSelect all)=true)
  (h:iW Γ nt n0 all ix f (i::done) k Q ((t, .d x)::env) H):iW Γ nt n0 all ix (f+1) done k Q env H :=
 fun G0 G a w h0 hl hF hdf hW hcl=>by
  rw[Bool.and_eq_true]at hfree
  have hr':i∈Region.ready .any all (bK all.size done):=by simpa using hr
  have hcl':=hcl.set hr'
  have hval:∃u,aM G u (.d x)∧∀w',SI G w'→(execOp a.eval o).run Γ.P w' = .ok (.value u) w':=by
   have hx:=aW hW hF y
   rw[hy]at hx
   obtain⟨ff⟩:=Γ.ty hT
   generalize hxe:a.eval y=yv at hx
   cases hx with
   |d _ _ hd' =>
    cases hd' with
    |iptr b o' _ hin hone hcell =>
     obtain⟨r,hr1,hr2⟩:=pR (G:=G) (b:=b) (o:=o') (us:=(G.imm b).drop o') ff hone (fun i c hc=>by
      have:=hcell i c hc
      simpa[gv,List.getD]using this) hv
     refine⟨r,hr1,fun w' hb=>?_⟩
     have:=hr2 w' (fun i hi=>by rw[hb b (o'+i) (by omega)];simp[gv,List.getD])
     unfold execOp
     simp only[hop,hxe]
     simp only[Nat.add_zero]at this
     simp[this]
  obtain⟨u,hu,hall⟩:=hval
  refine dF (Si:=SI G) ho (Nat.le_of_ble_eq_true him) (Nat.le_refl _) (Region.noSelect_spec hfree.2) (F4 hnp) (fun _ h=>h) (.inr fun j hj hjs=>absurd hjs (by omega)) f _ a w (gh _ _) hcl (Region.free_spec ho hfree.1) hr'
   (.inl ⟨bh hF hw,fun w' hb=>hall w' hb⟩) (hW.si (cE.refl _)) (fun _=>hW.si (cE.refl _)) (h G0 G _ w h0 hl (by rw[hd];exact hF.put ht hu) (bi a _ u hdf) hW hcl')
theorem iW.bD {all:Array Oper} {ix:List Nat} {f:Nat} {done:List Nat} {i:Nat} {o:Oper} {t T:Nat} {y:Operand} {ti:TI} {cs:List D} {x:D} (h:iW Γ nt n0 all ix f (i::done) k Q ((t, .d x)::env) H) (hi:uj all.toList ix done=some (i,o):=by rfl) (hop:o.op = .load T y:=by rfl) (hT:aJ Γ.T T=some ti:=by rfl) (hy:ev Γ env y = .d (.iptr cs):=by rfl) (hv:gI ti cs 0=some x:=by rfl) (hnp:dX Q:=by exact fun _ _ _ h=>h) (ho:all[i]?=some o:=by rfl) (hw:aZ all env o=some true:=by rfl) (hd:o.dst=some t:=by rfl) (ht:Nat.ble (t+1) nt=true:=by rfl) (him:Nat.ble (i+1) all.size=true:=by rfl) (hr:(Region.ready .any all (bK all.size done)).contains i=true:=by kernel_rfl) (hfree:(Region.free .any all (bK all.size done) i&&Region.noSelect all)=true:=by kernel_rfl):iW Γ nt n0 all ix (f+1) done k Q env H:=iW.load hi hop hT hy hv hnp ho hw hd ht him hr hfree h
theorem fE.fin {all:Array Oper} {ix:List Nat} {done:List Nat} (hr:(Region.ready .any all (bK all.size done)).isEmpty=true) (h:aa Γ nt n0 k Q env H):fE Γ nt n0 all ix 0 done k Q env H :=
 fun G0 G a w GK h0 hl hF hdf hW _ _=>⟨by simpa using hr,h G0 G a w h0 hl hF hdf hW⟩
theorem fE.bg {all:Array Oper} {ix:List Nat} {done:List Nat} (h:aa Γ nt n0 k Q env H) (hr:(Region.ready .any all (bK all.size done)).isEmpty=true:=by kernel_rfl):fE Γ nt n0 all ix 0 done k Q env H:=fE.fin hr h
theorem fE.aK {all:Array Oper} {ix:List Nat} {f:Nat} {done:List Nat} {i:Nat} {o:Oper} {t:Nat} {v:AV} (hi:iL all.toList ix done=some (i,o)) (hx:aA Γ nt env H o v) (hnp:dX Q) (ho:all[i]?=some o) (hw:aZ all env o=some true) (hd:o.dst=some t) (ht:Nat.ble (t+1) nt=true) (him:Nat.ble (i+1) all.size=true)
  (hr:(Region.ready .any all (bK all.size done)).contains i=true) (hfree:(Region.free .any all (bK all.size done) i&&Region.noSelect all)=true)
  (h:fE Γ nt n0 all ix f (i::done) k Q ((t,v)::env) H):fE Γ nt n0 all ix (f+1) done k Q env H :=
 fun G0 G a w GK h0 hl hF hdf hW hS hcl=>by
  rw[Bool.and_eq_true]at hfree
  have hr':i∈Region.ready .any all (bK all.size done):=by simpa using hr
  have hcl':=hcl.set hr'
  obtain⟨u,hu,hall⟩:=hx G a w hW hF
  exact av.ko (G:=G) i hnp ho him (Nat.ble_eq_true_of_le (Nat.le_refl _)) hr hfree.1 hfree.2 hcl (fun _=>hW.si hS) (.inl ⟨bh hF hw,fun w' _=>hall w'⟩) (h G0 G _ w GK h0 hl (by rw[hd];exact hF.put ht hu) (bi a _ u hdf) hW hS hcl')
theorem fE.GX {all:Array Oper} {ix:List Nat} {f:Nat} {done:List Nat} {i:Nat} {o:Oper} (hL:dZ all.toList ix done=[(i,o)]) (hr:decide (Region.ready .any all (bK all.size done)=[i])=true)
  (h1:jg Γ nt n0 all ix f i done k Q env H):fE Γ nt n0 all ix (f+1) done k Q env H :=
 fun G0 G a w GK h0 hl hF hdf hW hS hcl=>by
  have hr':=of_decide_eq_true hr
  refine⟨fun h=>(by rw[hr']at h;cases h),fun x hx=>?_⟩
  have hx':=hx
  rw[hr']at hx'
  simp only[List.mem_cons,List.not_mem_nil,or_false]at hx'
  subst hx'
  exact h1 hx G0 G a w GK h0 hl hF hdf hW hS hcl
theorem fE.jM {all:Array Oper} {ix:List Nat} {f:Nat} {done:List Nat} {i:Nat} {o:Oper} (h1:jg Γ nt n0 all ix f i done k Q env H) (hL:dZ all.toList ix done=[(i,o)]:=by rfl) (hr:decide (Region.ready .any all (bK all.size done)=[i])=true:=by kernel_rfl):fE Γ nt n0 all ix (f+1) done k Q env H:=fE.GX hL hr h1
theorem fE.gJ {all:Array Oper} {ix:List Nat} {f:Nat} {done:List Nat} {i j:Nat} {o p:Oper} (hL:dZ all.toList ix done=[(i,o),(j,p)]) (hr:decide (Region.ready .any all (bK all.size done)=[i,j])=true)
  (h1:jg Γ nt n0 all ix f i done k Q env H) (h2:jg Γ nt n0 all ix f j done k Q env H):fE Γ nt n0 all ix (f+1) done k Q env H :=
 fun G0 G a w GK h0 hl hF hdf hW hS hcl=>by
  have hr':=of_decide_eq_true hr
  refine⟨fun h=>(by rw[hr']at h;cases h),fun x hx=>?_⟩
  have hx':=hx
  rw[hr']at hx'
  simp only[List.mem_cons,List.not_mem_nil,or_false]at hx'
  rcases hx' with rfl|rfl
  ·exact h1 hx G0 G a w GK h0 hl hF hdf hW hS hcl
  ·exact h2 hx G0 G a w GK h0 hl hF hdf hW hS hcl
theorem fE.CL {all:Array Oper} {ix:List Nat} {f:Nat} {done:List Nat} {i j l:Nat} {o p q:Oper} (hL:dZ all.toList ix done=[(i,o),(j,p),(l,q)]) (hr:decide (Region.ready .any all (bK all.size done)=[i,j,l])=true)
  (h1:jg Γ nt n0 all ix f i done k Q env H) (h2:jg Γ nt n0 all ix f j done k Q env H) (h3:jg Γ nt n0 all ix f l done k Q env H):fE Γ nt n0 all ix (f+1) done k Q env H :=
 fun G0 G a w GK h0 hl hF hdf hW hS hcl=>by
  have hr':=of_decide_eq_true hr
  refine⟨fun h=>(by rw[hr']at h;cases h),fun x hx=>?_⟩
  have hx':=hx
  rw[hr']at hx'
  simp only[List.mem_cons,List.not_mem_nil,or_false]at hx'
  rcases hx' with rfl|rfl|rfl
  ·exact h1 hx G0 G a w GK h0 hl hF hdf hW hS hcl
  ·exact h2 hx G0 G a w GK h0 hl hF hdf hW hS hcl
  ·exact h3 hx G0 G a w GK h0 hl hF hdf hW hS hcl
def EF (Γ:Ctx) (nt n0:Nat) (all:Array Oper) (ix:List Nat) (f:Nat) (done:List Nat) (k:List It) (Q:Post):Post
 | .normal,env,H=>fE Γ nt n0 all ix f done k Q env H
 | .panic c,env,H=>Q (.panic c) env H
 | .outgrown,env,H=>Q .outgrown env H
 |_,_,_=>False
theorem fE.back {all:Array Oper} {ix:List Nat} {f:Nat} {done:List Nat} (h:fE Γ nt n0 all ix f done k Q env H):aa Γ nt n0 [] (EF Γ nt n0 all ix f done k Q) env H:=aa.done h
theorem jg.step {all:Array Oper} {ix:List Nat} {f:Nat} {done:List Nat} {i:Nat} {o:Oper} (ho:all[i]?=some o)
  (h:aa Γ nt n0 [.ops all [o]] (EF Γ nt n0 all ix f (i::done) k Q) env H):jg Γ nt n0 all ix f i done k Q env H :=
 fun hmem G0 G a w GK h0 hl hF hdf hW hS hcl=>by
  have hcl':=hcl.set (i:=i) hmem
  have his:i<all.size:=(Array.getElem?_eq_some_iff.1 ho).1
  have hn:=h G G a w (GLe.refl _ _) hl hF hdf hW
  simp only[aF]at hn
  unfold wpOp
  simp only[ho]
  unfold wpList at hn
  have fin:∀a' w',Conc Γ nt n0 G (EF Γ nt n0 all ix f (i::done) k Q) .normal a' w'→SI GK w'∧dD Γ.P all (aF Γ.P (Conc Γ nt n0 G0 Q) k) (SI GK) all.size f ((bK all.size done).setIfInBounds i true) a' w':=fun a' w' hc=>by
   obtain⟨G',env',H',c1,c2,c3,c4,c5,c6⟩:=hc
   exact⟨c5.si (hS.trans c1.imm),c6 G0 G' a' w' GK (h0.trans c1) c2 c3 c4 c5 (hS.trans c1.imm) hcl'⟩
  have pan:∀c a w,aF Γ.P (Conc Γ nt n0 G (EF Γ nt n0 all ix f (i::done) k Q)) [] (.panic c) a w→aF Γ.P (Conc Γ nt n0 G0 Q) k (.panic c) a w:=fun c a w h=>by
   rw[cF]
   obtain⟨G',env',H',c1,c2,c3,c4,c5,c6⟩:=h
   exact⟨G',env',H',h0.trans c1,c2,c3,c4,c5,c6⟩
  have out:∀a w,aF Γ.P (Conc Γ nt n0 G (EF Γ nt n0 all ix f (i::done) k Q)) [] .outgrown a w→aF Γ.P (Conc Γ nt n0 G0 Q) k .outgrown a w:=fun a w h=>by
   rw[cL]
   obtain⟨G',env',H',c1,c2,c3,c4,c5,c6⟩:=h
   exact⟨G',env',H',h0.trans c1,c2,c3,c4,c5,c6⟩
  split
  ·rename_i hw
   rw[if_pos hw]at hn
   rcases hn with hn|⟨hn,a',w',ho⟩
   ·exact .inl (mh (fun a' w' h'=>by
     have:=fin a' w' (by simpa only [wpList,aF]using h')
     exact⟨fun _ _=>this.1,this.2⟩) pan out hn)
   ·exact .inr ⟨hn,a',w',out a' w' ho⟩
  ·rename_i hw
   rw[if_neg hw]at hn
   have:=fin _ _ (by simpa only [wpList,aF]using hn)
   exact⟨fun _ _=>this.1,this.2⟩
theorem jg.cg {all:Array Oper} {ix:List Nat} {f:Nat} {done:List Nat} {i:Nat} {o:Oper} (h:aa Γ nt n0 [.ops all [o]] (EF Γ nt n0 all ix f (i::done) k Q) env H) (ho:all[i]?=some o:=by rfl):jg Γ nt n0 all ix f i done k Q env H:=jg.step ho h
def H4 (e1:Env) (H1:List au) (e2:Env) (H2:List au):Post
 | .normal,env,H=>(aO env e1 e1∧H=H1)∨(aO env e2 e2∧H=H2)
 |_,_,_=>False
theorem aa.Nu {e2:Env} {H2:List au}:aa Γ nt n0 [] (H4 env H e2 H2) env H:=aa.done (.inl ⟨aO.refl env env,rfl⟩)
theorem aa.Nt {e1:Env} {H1:List au}:aa Γ nt n0 [] (H4 e1 H1 env H) env H:=aa.done (.inr ⟨aO.refl env env,rfl⟩)
theorem aa.Mi {id:Nat} {all:Array Oper} {e1 e2:Env} {H1 H2:List au} (ix:List Nat) (f:Nat) (hf:all.size=f) (h:iW Γ nt n0 all ix f [] [] (H4 e1 H1 e2 H2) env H) (h1:aa Γ nt n0 k Q e1 H1) (h2:aa Γ nt n0 k Q e2 H2):aa Γ nt n0 (.code (.region id all true)::k) Q env H :=
 fun G0 G a w h0 hl hF hdf hW=>by
  have hn:=aa.NJ (id:=id) ix f hf h G0 G a w h0 hl hF hdf hW
  simp only[aF]at hn ⊢
  refine wp_mono hn fun e a' w' hq=>?_
  obtain⟨G',env1,H1',c1,c2,c3,c4,c5,c6⟩:=hq
  cases e with
  |normal =>
   rcases c6 with⟨c7,rfl⟩|⟨c7,rfl⟩
   ·exact h1 G0 G' a' w' c1 c2 (c7.LZ c3) c4 c5
   ·exact h2 G0 G' a' w' c1 c2 (c7.LZ c3) c4 c5
  |_=>exact c6.elim
end
end
section
open Go Go.RowKit
section
variable {Γ:Ctx} {nt n0:Nat} {k:List It} {Q:Post} {env:Env} {H:List au}
theorem wY {o:Oper} {T T' e n:Nat} {k:IntKind} {xs ys:List Int} {cs ds:List D} {ti te:TI} {x y:Operand} (hop:o.op = .binOp .neq T x y T') (hx:ev Γ env x = .d (.agg cs)) (hy:ev Γ env y = .d (.agg ds))
  (hT:aJ Γ.T T=some ti) (hsh:ti.sh = .array n e) (hE:aJ Γ.T e=some te) (hesh:te.sh = .int k) (hag:te.agg=false) (h1:il k cs=some xs) (h2:il k ds=some ys)
  (hn:xs.length=n) (hm:ys.length=n):cf Γ nt env H o (.d (.bool (!decide (xs=ys)))):=by
 intro G a w hW hF
 refine⟨_, .d _ _ (.bool _),fun w' hb=>?_⟩
 have e1:=aW hW hF x
 have e2:=aW hW hF y
 rw[hx]at e1
 rw[hy]at e2
 have v1:=zG e1 h1
 have v2:=zG e2 h2
 obtain⟨g1,_,g2⟩:=Bv (op := .neq) (x:=x) (y:=y) hT hsh hE hesh hag hn hm w'
 unfold execOp
 simp[hop,v1,v2,g1,g2]
end
section
open Go Go.RowKit
variable {Γ:Ctx} {nt n0:Nat} {k:List It} {Q:Post} {env:Env} {H:List au}
theorem aN.aj {all:Array Oper} {ix:List Nat} {m f fn:Nat} {done:List Nat} {i:Nat} {o:Oper} {t:Nat} {args0 args:List AV} {X r':AV} {Y H':List au} (hR:ACalls Γ fn args [] (fun r H=>r=X∧H=Y)) {bb:Prop} (h:bb) (ho:all[i]?=some o:=by rfl) (hcall:cZ Γ env o.op=some (fn,args0):=by rfl) (hwk:args0.map fgt=args:=by rfl) (hw:aZ all env o=some true:=by rfl) (hd:o.dst=some t:=by rfl) (ht:Nat.ble (t+1) nt=true:=by rfl) (hab:AV.cA 0 args=true:=by rfl) (him:Nat.ble (i+1) m=true:=by rfl) (hrr:r'=AV.ren (names [] H.length Y.length) X:=by rfl) (hH:H'=eY [] (Y.map (au.ren (names [] H.length Y.length))) H:=by rfl) (hbb:bb→ai Γ nt n0 all ix m f (i::done) k Q ((t,r')::env) H':=by intro k;(try simp only[ny,nh,Nat.reduceAdd,Nat.reduceSub]);exact k):aN Γ nt n0 all ix m f i done k Q env H:=aN.call hR ho hcall hwk hw hd ht hab him hrr hH (hbb h)
end
section
open Go Go.RowKit
variable {Γ:Ctx} {nt n0:Nat} {k:List It} {Q:Post} {env:Env} {H:List au}
theorem aa.Fv (id:Nat) (t:Nat) {cs:List AV} {bb:Prop} (h:bb) (ht:env.get t = .ptr id 0:=by rfl) (hh:hget H id=some (.cells cs):=by rfl) (hbb:bb→aa Γ nt n0 k Q ((t, .d (.iptr (cs.map AV.nW)))::env) (H.set id .gone):=by intro k;simp only[List.map,AV.nW,List.set_cons_zero,List.set_cons_succ];exact k):aa Γ nt n0 k Q env H:=aa.K6 id t ht hh (hbb h)
end
end
end Go.Proofs.YtbpednchkndocaaGreatDoor.Av
