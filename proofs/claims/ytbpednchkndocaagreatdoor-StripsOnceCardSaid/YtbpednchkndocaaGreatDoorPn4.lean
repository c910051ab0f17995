/- Labels that nothing jumps to. Regions that draw their order: an empty slice written out among the steps that keep what there was. Regions that draw their order: two or three steps that may come up in any order behind the reads. Regions that draw their order: what nobody writes is read ahead of all; then all orders. Arrays of whole numbers: unlike. -/
import Derived.Test.YtbpednchkndocaaGreatDoorPn3
import Derived.Scope
set_option linter.unusedVariables false
set_option linter.unusedSimpArgs false
set_option maxRecDepth 100000
set_option maxHeartbeats 64000000
namespace Go.Proofs.YtbpednchkndocaaGreatDoor.Av
section
open Go Go.RowKit
theorem kM{P:Program}{Q':Exit→Act→World→Prop}{l:Nat}:∀(k:List It) (a:Act) (w:World),aZ P Q' k (.goto l) a w=Q' (.goto l) a w
 |[],_,_=>rfl
 | .blk j::k,a,w=>by simp only[aZ];exact kM k a w
 | .code _::k,a,w=>by simp only[aZ];exact kM k a w
 | .ops _ _::k,a,w=>by simp only[aZ];exact kM k a w
 | .qops _ _::k,a,w=>by simp only[aZ];exact kM k a w
 | .sops _ _::k,a,w=>by simp only[aZ];exact kM k a w
 | .lp _::k,a,w=>by simp only[aZ];exact kM k a w
section
variable {Γ:Ctx}{nt n0:Nat}{k:List It}{Q:Post}{env:Env}{H:List aN}
theorem aa.label{l:Nat}(h:aa Γ nt n0 k Q env H):aa Γ nt n0 (.code (.label l)::k) Q env H :=
 fun G0 G a w h0 hl hF hdf hW=>by
  simp only[aZ];exact wp_label (h G0 G a w h0 hl hF hdf hW)
theorem aa.scope{c:Code}(hng:∀l env H,¬Q (.goto l) env H)(h:aa Γ nt n0 (.code c::k) Q env H):aa Γ nt n0 (.code (.scope c)::k) Q env H :=
 fun G0 G a w h0 hl hF hdf hW=>by
  have hn:=h G0 G a w h0 hl hF hdf hW;simp only[aZ]at hn ⊢;refine wp_scope_straight (wp_mono hn fun e a' w' hq=>?_);cases e with
  |goto l =>
   rw[kM]at hq;obtain⟨_,env',H',_,_,_,_,_,hq⟩:=hq;exact (hng l env' H' hq).elim
  |_=>exact hq
theorem aa.Fc{c:Code}(h:aa Γ nt n0 (.code c::k) Q env H)(hng:∀l env H,¬Q (.goto l) env H:=by exact fun _ _ _ h=>h):aa Γ nt n0 (.code (.scope c)::k) Q env H:=aa.scope hng h
theorem aa.OJ{fn:Func}{R:AV→List aN→Prop}{r:AV}{I:Nat→Env→List aN→Prop}{n:Nat}{K:List It}(r':AV)(hr:gy Γ env H fn.results.toList=some r)(hw:cJ r r')(hl:Nat.ble n0 H.length=true)(hb:r'.bnd n0=true)
  (ho:dZ n0 (H.take n0)=true) (h:R r' (H.take n0)):aa Γ nt n0 (.code .ret::k) (fK Γ nt n0 I n K (qY Γ fn n0 R)) env H:=aa.ret (Q:=fK Γ nt n0 I n K (qY Γ fn n0 R)) (Fin.mk' hr hw hl hb ho h)
end
end
section
open Go Go.RowKit
section
variable {Γ:Ctx}{nt n0:Nat}{k:List It}{Q:Post}{env:Env}{H:List aN}
theorem aK.Lr{all:Array Oper}{ix:List Nat}{m f:Nat}{done:List Nat}{i:Nat}{o:Oper}{t T e:Nat}{ti te:TI}(hL:gW all.toList ix done=[(i,o)])(hop:o.op = .buildSlice T 0 #[])(ho:all[i]?=some o)(hw:bL all env o=some true)(hd:o.dst=some t)(ht:Nat.ble (t+1) nt=true)
  (hT:aY Γ.T T=some ti) (hsh:ti.sh = .slice e) (he:aY Γ.T e=some te)
  (hr:decide (Region.ready .any all (cV all.size done)=[i])=true) (him:Nat.ble (i+1) m=true)
  (h:aK Γ nt n0 all ix m f (i::done) k Q ((t, .ms H.length 0)::env) (H++[.arr e te.size []])):aK Γ nt n0 all ix m (f+1) done k Q env H :=
 fun G0 G a w w0 GK h0 hl hF hdf hW hS hcl=>by
  have hr':=of_decide_eq_true hr;have hcl':=hcl.set (i:=i) (by rw[hr'];simp);obtain⟨ff⟩:=Γ.ty hT;obtain⟨fe⟩:=Γ.ty he;have hrr:d9 G.imm te.size [] ([]:List Value) := .nil _ _;have hlit:=World.ownsRow_lit (base:=0) (e:=e) (size:=te.size) w #[] 0 (Nat.zero_le _) (by simp only[maxLen];omega) (by simp);obtain⟨g1,g2⟩:=hW.qW (w':=w.alloc (.cells #[] e)) (e:=e) (sz:=te.size) (n:=0) (v := .slice none 0 0) (v' := .slice (some ⟨w.heap.size,0,none⟩) 0 0) (es':=[]) (ys:=[]) H.length (.inr ⟨rfl,rfl,rfl⟩) (Nat.zero_le _) (fun h _=>by omega) rfl rfl rfl (by simp)
   (fun b hb => .inr (by simp[Value.ownBlock]at hb;omega)) (fun b hb _=>heap_alloc_old w _ hb)
   hlit hrr (H++[.arr e te.size []]) (by simp) (by simp) (fun i hi=>by
    rcases Nat.lt_or_ge i H.length with h1|h1
    ·simp[List.getElem?_append_left h1]
    ·rw[List.getElem?_append_right h1,List.getElem?_eq_none h1];have:i-H.length=(i-H.length-1)+1:=by omega
     rw[this];simp)
  have hk2:Yet m (cV all.size done)→w0.heap.size≤(w.alloc (.cells #[] e)).heap.size∧KB GK [] w0 (w.alloc (.cells #[] e)):=fun hy=>by
   obtain⟨s1,s2⟩:=hS hy;exact⟨(by show w0.heap.size≤(w.heap.push _).size;rw[Array.size_push];omega),fun b hb hid=>(heap_alloc_old w _ (by omega)).trans (s2 b hb hid)⟩
  have hn:=h G0 _ (a.put (some t) (.slice (some ⟨w.heap.size,0,none⟩) 0 0)) _ w0 GK (h0.trans (g1.weaken hl)) (by simp;omega) ((hF.up g1 hW.lim).put ht (.ms _ _ _ (by simp[aO.rY]) rfl)) (by simp[Act.put,hdf]) g2 (fun hy=>hk2 (hy.lM (Nat.le_of_ble_eq_true him))) hcl';have hrun:(execOp a.eval o).run Γ.P w = .ok (.value (.slice (some ⟨w.heap.size,0,none⟩) 0 0)) (w.alloc (.cells #[] e)):=by
   unfold execOp;have e0:Array.range 0=#[]:=Array.eq_empty_of_size_eq_zero (by simp);simp[hop,Instr.buildSlice,run_underlying (cQ ff hsh),fe.sizeOf,Instr.fill,newRow,e0]
  refine⟨fun h1=>(by rw[hr']at h1;cases h1),fun j hj=>?_⟩;have hji:j=i:=by rw[hr']at hj;simpa using hj
  subst hji;unfold wpOp;simp only[ho];rw[if_pos (bQ hF hw)];refine .inl ?_;unfold Oper.wp;rw[hrun];simp only[Oper.upon,hd];exact⟨fun hy _=>(hk2 hy).2,hn⟩
end
end
section
open Go Go.RowKit
section
variable {Γ:Ctx}{nt n0:Nat}{k:List It}{Q:Post}{env:Env}{H:List aN}
def bP(Γ:Ctx)(nt n0:Nat)(all:Array Oper)(ix:List Nat)(m f i:Nat)(done:List Nat)(k:List It)(Q:Post)(env:Env)(H:List aN):Prop :=
 i∈Region.ready .any all (cV all.size done)→∀G0 G a w (w0:World) (GK:aO),GLe n0 G0 G→n0≤H.length→df G nt a.tmps env→a.defers=[]→bM Γ.gl G H w→(Yet m (cV all.size done)→w0.heap.size≤w.heap.size∧KB GK [] w0 w)→Closed all (cV all.size done) →
  wpOp Γ.P all (aZ Γ.P (Conc Γ nt n0 G0 Q) k) i (fun a' w'=>(Yet m (cV all.size done)→i<m→KB GK [] w0 w')∧fB Γ.P all (aZ Γ.P (Conc Γ nt n0 G0 Q) k) (fun w'=>KB GK [] w0 w') m f ((cV all.size done).setIfInBounds i true) a' w') a w
theorem aK.iC{all:Array Oper}{ix:List Nat}{m f:Nat}{done:List Nat}{i j:Nat}{o p:Oper}(hL:gW all.toList ix done=[(i,o),(j,p)])(hr:decide (Region.ready .any all (cV all.size done)=[i,j])=true)
  (h1:bP Γ nt n0 all ix m f i done k Q env H) (h2:bP Γ nt n0 all ix m f j done k Q env H):aK Γ nt n0 all ix m (f+1) done k Q env H :=
 fun G0 G a w w0 GK h0 hl hF hdf hW hS hcl=>by
  have hr':=of_decide_eq_true hr;refine⟨fun h=>(by rw[hr']at h;cases h),fun x hx=>?_⟩;have hx':=hx;rw[hr']at hx';simp only[List.mem_cons,List.not_mem_nil,or_false]at hx';rcases hx' with rfl|rfl
  ·exact h1 hx G0 G a w w0 GK h0 hl hF hdf hW hS hcl
  ·exact h2 hx G0 G a w w0 GK h0 hl hF hdf hW hS hcl
theorem bP.call{all:Array Oper}{ix:List Nat}{m f fn:Nat}{done:List Nat}{i:Nat}{o:Oper}{t:Nat}{args0 args:List AV}{X r':AV}{Y H':List aN}(hR:ACalls Γ fn args [] (fun r H=>r=X∧H=Y))(ho:all[i]?=some o)(hcall:eU Γ env o.op=some (fn,args0))(hwk:args0.map fgt=args)(hw:bL all env o=some true)(hd:o.dst=some t)(ht:Nat.ble (t+1) nt=true)
  (hab:AV.dF 0 args=true) (him:Nat.ble (i+1) m=true) (hrr:r'=AV.ren (names [] H.length Y.length) X) (hH:H'=iw [] (Y.map (aN.ren (names [] H.length Y.length))) H)
  (h:aK Γ nt n0 all ix m f (i::done) k Q ((t,r')::env) H'):bP Γ nt n0 all ix m f i done k Q env H :=
 fun hmem G0 G a w w0 GK h0 hl hF hdf hW hS hcl=>by
  have hcl':=hcl.set (i:=i) hmem;obtain⟨vs,hA0,hrun⟩:=ll hW hF hcall hR.1;have hA:jZ G vs args:=by
   rw[←hwk];refine⟨by simpa using hA0.1,fun i c hc=>?_⟩;rw[List.getElem?_map]at hc;cases hq:args0[i]? with
   |none=>simp[hq]at hc
   |some c0 =>
    simp[hq]at hc;subst hc;exact tP c0 _ _ (hA0.2 i c0 hq)
  have hp:mi [] H=some (([]:List aN).map (aN.ren [])):=rfl;have hWc:=hW.callee (ρ:=[]) (Hc:=[]) (by simp) hp rfl;have hAc:jZ (G.callee w H []) vs args:=by
   refine⟨hA.1,fun i c hc=>?_⟩;have e:args=AV.jy [] args:=(nQ _ hab).symm;have hc2:(AV.jy [] args)[i]?=some (AV.ren [] c):=by rw[dV,List.getElem?_map,hc];rfl
   rw[e]at hA;exact bA.rE (G:=G) (G':=G.callee w H []) (dR.refl G.imm) (fun i id h=>gP h) (fun i id n h=>iI h) c _ (eY hab hc) (hA.2 i _ hc2)
  have hcalls:=hR.2 _ w vs hWc hAc;unfold wpOp;simp only[ho];rw[if_pos (bQ hF hw)];refine .inl ?_;unfold Oper.wp;rw[hrun w];refine hcalls.mono ?_;rintro e w' ⟨v,r,Hc',Gc',rfl,⟨rfl,rfl⟩,hlen',hle,hv,hWc'⟩;obtain⟨b1,b2,b3,b4,b5⟩:=hW.back (by simp) (by simp) rfl hlen' hle hWc';have hbase:Gc'.base=w:=hle.base;have hkb':∀b,b<w.heap.size→w'.heap[b]?=w.heap[b]?:=fun b hb=>by
   have:=(hWc'.old b (by rw[hbase];exact hb) (fun hn=>by
    rw[hle.own0]at hn;obtain⟨id,o',hm,_⟩:=hn
    simp at hm)).1
   rwa [hbase]at this
  have hsz':w.heap.size≤w'.heap.size:=by have:=hWc'.size;rwa [hbase]at this
  have hk2:Yet m (cV all.size done)→w0.heap.size≤w'.heap.size∧KB GK [] w0 w':=fun hy=>by
   obtain⟨s1,s2⟩:=hS hy;exact⟨by omega,fun b hb hid=>(hkb' b (by omega)).trans (s2 b hb hid)⟩
  have hF':df (G.back Gc' (names [] H.length Hc'.length)) nt (a.put (some t) v).tmps ((t,r')::env):=by
   rw[hrr];exact (hF.up b1 hW.lim).put ht (hv.ren b3 b4 b5)
  rw[←hH]at b2;have hlH:H.length≤H'.length:=by
   rw[hH,ik (by simp)];simp
  simp only[hd];exact⟨fun hy _=>(hk2 hy).2,h G0 _ (a.put (some t) v) w' w0 GK (h0.trans (b1.weaken hl)) (by omega) hF' (by simp[Act.put,hdf]) b2 (fun hy=>hk2 (hy.lM (Nat.le_of_ble_eq_true him))) hcl'⟩
theorem bP.step{all:Array Oper}{ix:List Nat}{m f:Nat}{done:List Nat}{i:Nat}{o:Oper}(ho:all[i]?=some o)(him:Nat.ble m i=true)
  (h:aa Γ nt n0 [.ops all [o]] (yd Γ nt n0 all ix m f (i::done) k Q) env H):bP Γ nt n0 all ix m f i done k Q env H :=
 fun hmem G0 G a w w0 GK h0 hl hF hdf hW hS hcl=>by
  have hmi:=Nat.le_of_ble_eq_true him;have hcl':=hcl.set (i:=i) hmem;have his:i<all.size:=(Array.getElem?_eq_some_iff.1 ho).1;have hny:¬Yet m (cV all.size (i::done)):=fun hy=>by
   have:=hy i hmi;rw[cV,iH (by rw[iY];exact his)]at this;cases this
  have hn:=h G0 G a w h0 hl hF hdf hW;simp only[aZ]at hn;unfold wpOp;simp only[ho];unfold wpList at hn;have fin:∀a' w',Conc Γ nt n0 G0 (yd Γ nt n0 all ix m f (i::done) k Q) .normal a' w'→fB Γ.P all (aZ Γ.P (Conc Γ nt n0 G0 Q) k) (fun w'=>KB GK [] w0 w') m f ((cV all.size done).setIfInBounds i true) a' w':=fun a' w' hc=>by
   obtain⟨G',env',H',c1,c2,c3,c4,c5,c6⟩:=hc;exact c6 G0 G' a' w' w0 GK c1 c2 c3 c4 c5 (fun hy=>absurd hy hny) hcl'
  have pan:∀c a w,aZ Γ.P (Conc Γ nt n0 G0 (yd Γ nt n0 all ix m f (i::done) k Q)) [] (.panic c) a w→aZ Γ.P (Conc Γ nt n0 G0 Q) k (.panic c) a w:=fun c a w h=>by
   rw[dO];exact h
  have out:∀a w,aZ Γ.P (Conc Γ nt n0 G0 (yd Γ nt n0 all ix m f (i::done) k Q)) [] .outgrown a w→aZ Γ.P (Conc Γ nt n0 G0 Q) k .outgrown a w:=fun a w h=>by
   rw[dU];exact h
  split
  ·rename_i hw;rw[if_pos hw]at hn;rcases hn with hn|⟨hn,a',w',ho⟩
   ·exact .inl (pG (fun a' w' h'=>⟨fun _ hjm=>absurd hjm (by omega),fin a' w' (by simpa only [wpList,aZ]using h')⟩) pan out hn)
   ·exact .inr ⟨hn,a',w',out a' w' ho⟩
  ·rename_i hw;rw[if_neg hw]at hn;exact⟨fun _ hjm=>absurd hjm (by omega),fin _ _ (by simpa only [wpList,aZ]using hn)⟩
theorem bP.gH{all:Array Oper}{ix:List Nat}{m f:Nat}{done:List Nat}{i:Nat}{o:Oper}(h:aa Γ nt n0 [.ops all [o]] (yd Γ nt n0 all ix m f (i::done) k Q) env H)(ho:all[i]?=some o:=by rfl)(him:Nat.ble m i=true:=by rfl):bP Γ nt n0 all ix m f i done k Q env H:=bP.step ho him h
end
end
section
open Go Go.RowKit
def SI(G:aO)(w:World):Prop:=∀b i,i<(G.imm b).length→w.cell? ⟨b,i,none⟩=some (gv (G.imm b) i)
theorem bM.si{gl:List (Nat×List D)}{G GK:aO}{H:List aN}{w:World}(hW:bM gl G H w)(h:dR GK.imm G.imm):SI GK w:=fun b i hi=>by
 rw[hW.imm b i (Nat.lt_of_lt_of_le hi (h.len b)),h.gv hi]
section
variable {Γ:Ctx}{nt n0:Nat}{k:List It}{Q:Post}{env:Env}{H:List aN}
def vE(Γ:Ctx)(nt n0:Nat)(all:Array Oper)(ix:List Nat)(f:Nat)(done:List Nat)(k:List It)(Q:Post)(env:Env)(H:List aN):Prop :=
 ∀G0 G a w,GLe n0 G0 G→n0≤H.length→df G nt a.tmps env→a.defers=[]→bM Γ.gl G H w→Closed all (cV all.size done)→fB Γ.P all (aZ Γ.P (Conc Γ nt n0 G0 Q) k) (SI G) all.size f (cV all.size done) a w
def oq(Γ:Ctx)(nt n0:Nat)(all:Array Oper)(ix:List Nat)(f:Nat)(done:List Nat)(k:List It)(Q:Post)(env:Env)(H:List aN):Prop :=
 ∀G0 G a w (GK:aO),GLe n0 G0 G→n0≤H.length→df G nt a.tmps env→a.defers=[]→bM Γ.gl G H w→dR GK.imm G.imm→Closed all (cV all.size done)→fB Γ.P all (aZ Γ.P (Conc Γ nt n0 G0 Q) k) (SI GK) all.size f (cV all.size done) a w
def yf(Γ:Ctx)(nt n0:Nat)(all:Array Oper)(ix:List Nat)(f i:Nat)(done:List Nat)(k:List It)(Q:Post)(env:Env)(H:List aN):Prop :=
 i∈Region.ready .any all (cV all.size done)→∀G0 G a w (GK:aO),GLe n0 G0 G→n0≤H.length→df G nt a.tmps env→a.defers=[]→bM Γ.gl G H w→dR GK.imm G.imm→Closed all (cV all.size done) →
  wpOp Γ.P all (aZ Γ.P (Conc Γ nt n0 G0 Q) k) i (fun a' w'=>(Yet all.size (cV all.size done)→i<all.size→SI GK w')∧fB Γ.P all (aZ Γ.P (Conc Γ nt n0 G0 Q) k) (SI GK) all.size f ((cV all.size done).setIfInBounds i true) a' w') a w
theorem vE.go{all:Array Oper}{ix:List Nat}{f:Nat}{done:List Nat}(h:oq Γ nt n0 all ix f done k Q env H):vE Γ nt n0 all ix f done k Q env H :=
 fun G0 G a w h0 hl hF hdf hW hcl=>h G0 G a w G h0 hl hF hdf hW (dR.refl _) hcl
theorem vE.jA{all:Array Oper}{ix:List Nat}{f:Nat}{done:List Nat}{i:Nat}{o:Oper}{t:Nat}{v:AV}(hi:jp all.toList ix done=some (i,o))(hx:eZ Γ nt env H o v)(hnp:fN Q)(ho:all[i]?=some o)(hw:bL all env o=some true)(hd:o.dst=some t)(ht:Nat.ble (t+1) nt=true)(him:Nat.ble (i+1) all.size=true)
  (hr:(Region.ready .any all (cV all.size done)).contains i=true) (hfree:(Region.free .any all (cV all.size done) i&&Region.noSelect all)=true)
  (h:vE Γ nt n0 all ix f (i::done) k Q ((t,v)::env) H):vE Γ nt n0 all ix (f+1) done k Q env H :=
 fun G0 G a w h0 hl hF hdf hW hcl=>by
  rw[Bool.and_eq_true]at hfree;have hr':i∈Region.ready .any all (cV all.size done):=by simpa using hr
  have hcl':=hcl.set hr';obtain⟨u,hu,hall⟩:=hx G a w hW hF;exact aW.mE (G:=G) i hnp ho him (Nat.ble_eq_true_of_le (Nat.le_refl _)) hr hfree.1 hfree.2 hcl (fun _=>hW.si (dR.refl _)) (.inl ⟨bQ hF hw,fun w' _=>hall w'⟩) (h G0 G _ w h0 hl (by rw[hd];exact hF.put ht hu) (bZ a _ u hdf) hW hcl')
theorem vE.load{all:Array Oper}{ix:List Nat}{f:Nat}{done:List Nat}{i:Nat}{o:Oper}{t T:Nat}{y:Operand}{ti:TI}{cs:List D}{x:D}(hi:yQ all.toList ix done=some (i,o))(hop:o.op = .load T y)(hT:aY Γ.T T=some ti)(hy:ev Γ env y = .d (.iptr cs))(hv:kC ti cs 0=some x)
  (hnp:fN Q) (ho:all[i]?=some o) (hw:bL all env o=some true) (hd:o.dst=some t) (ht:Nat.ble (t+1) nt=true) (him:Nat.ble (i+1) all.size=true)
  (hr:(Region.ready .any all (cV all.size done)).contains i=true) (hfree:(Region.free .any all (cV all.size done) i&&Region.noSelect all)=true)
  (h:vE Γ nt n0 all ix f (i::done) k Q ((t, .d x)::env) H):vE Γ nt n0 all ix (f+1) done k Q env H :=
 fun G0 G a w h0 hl hF hdf hW hcl=>by
  rw[Bool.and_eq_true]at hfree;have hr':i∈Region.ready .any all (cV all.size done):=by simpa using hr
  have hcl':=hcl.set hr';have hval:∃u,bA G u (.d x)∧∀w',SI G w'→(execOp a.eval o).run Γ.P w' = .ok (.value u) w':=by
   have hx:=bN hW hF y;rw[hy]at hx;obtain⟨ff⟩:=Γ.ty hT;generalize hxe:a.eval y=yv at hx;cases hx with
   | d _ _ hd' =>
    cases hd' with
    | iptr b o' _ hin hone hcell =>
     obtain⟨r,hr1,hr2⟩:=tE (G:=G) (b:=b) (o:=o') (us:=(G.imm b).drop o') ff hone (fun i c hc=>by
      have:=hcell i c hc
      simpa[gv,List.getD]using this) hv
     refine⟨r,hr1,fun w' hb=>?_⟩;have:=hr2 w' (fun i hi=>by rw[hb b (o'+i) (by omega)];simp[gv,List.getD]);unfold execOp;simp only[hop,hxe];simp only[Nat.add_zero]at this;simp[this]
  obtain⟨u,hu,hall⟩:=hval;refine fF (Si:=SI G) ho (Nat.le_of_ble_eq_true him) (Nat.le_refl _) (Region.noSelect_spec hfree.2) (Jv hnp) (fun _ h=>h) (.inr fun j hj hjs=>absurd hjs (by omega)) f _ a w (iY _ _) hcl (Region.free_spec ho hfree.1) hr'
   (.inl ⟨bQ hF hw,fun w' hb=>hall w' hb⟩) (hW.si (dR.refl _)) (fun _=>hW.si (dR.refl _)) (h G0 G _ w h0 hl (by rw[hd];exact hF.put ht hu) (bZ a _ u hdf) hW hcl')
theorem oq.fin{all:Array Oper}{ix:List Nat}{done:List Nat}(hr:(Region.ready .any all (cV all.size done)).isEmpty=true)(h:aa Γ nt n0 k Q env H):oq Γ nt n0 all ix 0 done k Q env H :=
 fun G0 G a w GK h0 hl hF hdf hW _ _=>⟨by simpa using hr,h G0 G a w h0 hl hF hdf hW⟩
theorem oq.jA{all:Array Oper}{ix:List Nat}{f:Nat}{done:List Nat}{i:Nat}{o:Oper}{t:Nat}{v:AV}(hi:jp all.toList ix done=some (i,o))(hx:eZ Γ nt env H o v)(hnp:fN Q)(ho:all[i]?=some o)(hw:bL all env o=some true)(hd:o.dst=some t)(ht:Nat.ble (t+1) nt=true)(him:Nat.ble (i+1) all.size=true)
  (hr:(Region.ready .any all (cV all.size done)).contains i=true) (hfree:(Region.free .any all (cV all.size done) i&&Region.noSelect all)=true)
  (h:oq Γ nt n0 all ix f (i::done) k Q ((t,v)::env) H):oq Γ nt n0 all ix (f+1) done k Q env H :=
 fun G0 G a w GK h0 hl hF hdf hW hS hcl=>by
  rw[Bool.and_eq_true]at hfree;have hr':i∈Region.ready .any all (cV all.size done):=by simpa using hr
  have hcl':=hcl.set hr';obtain⟨u,hu,hall⟩:=hx G a w hW hF;exact aW.mE (G:=G) i hnp ho him (Nat.ble_eq_true_of_le (Nat.le_refl _)) hr hfree.1 hfree.2 hcl (fun _=>hW.si hS) (.inl ⟨bQ hF hw,fun w' _=>hall w'⟩) (h G0 G _ w GK h0 hl (by rw[hd];exact hF.put ht hu) (bZ a _ u hdf) hW hS hcl')
theorem oq.OW{all:Array Oper}{ix:List Nat}{f:Nat}{done:List Nat}{i:Nat}{o:Oper}(hL:gW all.toList ix done=[(i,o)])(hr:decide (Region.ready .any all (cV all.size done)=[i])=true)
  (h1:yf Γ nt n0 all ix f i done k Q env H):oq Γ nt n0 all ix (f+1) done k Q env H :=
 fun G0 G a w GK h0 hl hF hdf hW hS hcl=>by
  have hr':=of_decide_eq_true hr;refine⟨fun h=>(by rw[hr']at h;cases h),fun x hx=>?_⟩;have hx':=hx;rw[hr']at hx';simp only[List.mem_cons,List.not_mem_nil,or_false]at hx';subst hx';exact h1 hx G0 G a w GK h0 hl hF hdf hW hS hcl
theorem oq.iC{all:Array Oper}{ix:List Nat}{f:Nat}{done:List Nat}{i j:Nat}{o p:Oper}(hL:gW all.toList ix done=[(i,o),(j,p)])(hr:decide (Region.ready .any all (cV all.size done)=[i,j])=true)
  (h1:yf Γ nt n0 all ix f i done k Q env H) (h2:yf Γ nt n0 all ix f j done k Q env H):oq Γ nt n0 all ix (f+1) done k Q env H :=
 fun G0 G a w GK h0 hl hF hdf hW hS hcl=>by
  have hr':=of_decide_eq_true hr;refine⟨fun h=>(by rw[hr']at h;cases h),fun x hx=>?_⟩;have hx':=hx;rw[hr']at hx';simp only[List.mem_cons,List.not_mem_nil,or_false]at hx';rcases hx' with rfl|rfl
  ·exact h1 hx G0 G a w GK h0 hl hF hdf hW hS hcl
  ·exact h2 hx G0 G a w GK h0 hl hF hdf hW hS hcl
def LQ(Γ:Ctx)(nt n0:Nat)(all:Array Oper)(ix:List Nat)(f:Nat)(done:List Nat)(k:List It)(Q:Post):Post
 | .normal,env,H=>oq Γ nt n0 all ix f done k Q env H
 | .panic c,env,H=>Q (.panic c) env H
 | .outgrown,env,H=>Q .outgrown env H
 |_,_,_=>False
theorem oq.back{all:Array Oper}{ix:List Nat}{f:Nat}{done:List Nat}(h:oq Γ nt n0 all ix f done k Q env H):aa Γ nt n0 [] (LQ Γ nt n0 all ix f done k Q) env H:=aa.done h
theorem yf.step{all:Array Oper}{ix:List Nat}{f:Nat}{done:List Nat}{i:Nat}{o:Oper}(ho:all[i]?=some o)
  (h:aa Γ nt n0 [.ops all [o]] (LQ Γ nt n0 all ix f (i::done) k Q) env H):yf Γ nt n0 all ix f i done k Q env H :=
 fun hmem G0 G a w GK h0 hl hF hdf hW hS hcl=>by
  have hcl':=hcl.set (i:=i) hmem;have his:i<all.size:=(Array.getElem?_eq_some_iff.1 ho).1;have hn:=h G G a w (GLe.refl _ _) hl hF hdf hW;simp only[aZ]at hn;unfold wpOp;simp only[ho];unfold wpList at hn;have fin:∀a' w',Conc Γ nt n0 G (LQ Γ nt n0 all ix f (i::done) k Q) .normal a' w'→SI GK w'∧fB Γ.P all (aZ Γ.P (Conc Γ nt n0 G0 Q) k) (SI GK) all.size f ((cV all.size done).setIfInBounds i true) a' w':=fun a' w' hc=>by
   obtain⟨G',env',H',c1,c2,c3,c4,c5,c6⟩:=hc;exact⟨c5.si (hS.trans c1.imm),c6 G0 G' a' w' GK (h0.trans c1) c2 c3 c4 c5 (hS.trans c1.imm) hcl'⟩
  have pan:∀c a w,aZ Γ.P (Conc Γ nt n0 G (LQ Γ nt n0 all ix f (i::done) k Q)) [] (.panic c) a w→aZ Γ.P (Conc Γ nt n0 G0 Q) k (.panic c) a w:=fun c a w h=>by
   rw[dO];obtain⟨G',env',H',c1,c2,c3,c4,c5,c6⟩:=h;exact⟨G',env',H',h0.trans c1,c2,c3,c4,c5,c6⟩
  have out:∀a w,aZ Γ.P (Conc Γ nt n0 G (LQ Γ nt n0 all ix f (i::done) k Q)) [] .outgrown a w→aZ Γ.P (Conc Γ nt n0 G0 Q) k .outgrown a w:=fun a w h=>by
   rw[dU];obtain⟨G',env',H',c1,c2,c3,c4,c5,c6⟩:=h;exact⟨G',env',H',h0.trans c1,c2,c3,c4,c5,c6⟩
  split
  ·rename_i hw;rw[if_pos hw]at hn;rcases hn with hn|⟨hn,a',w',ho⟩
   ·exact .inl (pG (fun a' w' h'=>by
     have:=fin a' w' (by simpa only [wpList,aZ]using h')
     exact⟨fun _ _=>this.1,this.2⟩) pan out hn)
   ·exact .inr ⟨hn,a',w',out a' w' ho⟩
  ·rename_i hw;rw[if_neg hw]at hn;have:=fin _ _ (by simpa only [wpList,aZ]using hn);exact⟨fun _ _=>this.1,this.2⟩
end
end
section
open Go Go.RowKit
section
variable {Γ:Ctx}{nt n0:Nat}{k:List It}{Q:Post}{env:Env}{H:List aN}
end
end
end Go.Proofs.YtbpednchkndocaaGreatDoor.Av
