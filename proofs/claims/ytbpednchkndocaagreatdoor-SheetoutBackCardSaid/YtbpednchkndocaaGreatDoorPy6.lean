/- Functions and nil. Regions that draw their order: reads ahead, where one step lays a block at any time. -/
import Derived.Test.YtbpednchkndocaaGreatDoorPn5
set_option linter.unusedVariables false
set_option linter.unusedSimpArgs false
set_option maxRecDepth 100000
set_option maxHeartbeats 64000000
namespace Go.Proofs.YtbpednchkndocaaGreatDoor.Av
section
open Go Go.RowKit
theorem DRel.JE{imm:Nat→List Value}{v:Value}(h:DRel imm v .nilf):v = .nilFunc:=by cases h;rfl
def FU:Option TypeDesc→Bool
 |some (.func _ _ _)=>true
 |_=>false
def Kg:AV→Option Bool
 | .d .nilf=>some true
 | .fn _ _ _=>some false
 |_=>none
theorem Hu{G:aO}{v:Value}{a:AV}{b:Bool}(h:bA G v a)(hb:Kg a=some b):(b=true∧v = .nilFunc)∨(b=false∧∃f vs ws,v = .func f vs ws):=by
 cases h with
 |d v x h=>cases h<;>first|(cases hb;exact .inl ⟨rfl,rfl⟩)|cases hb
 |fn f vs ws=>cases hb;exact .inr ⟨rfl,_,_,_,rfl⟩
 |_=>cases hb
section
variable {Γ:Ctx}{nt n0:Nat}{k:List It}{Q:Post}{env:Env}{H:List aN}
theorem Jd{op:BinOp}{T:Nat}{x y:Operand}{b r:Bool}{v:Value}(hT:FU (Γ.P.underlying T)=true)(hv:(b=true∧v = .nilFunc)∨(b=false∧∃f vs ws,v = .func f vs ws))(ho:eqF op b=some r)(w:World):
  (do eqGuard op T x y v .nilFunc;binOp op T v .nilFunc:Sem Value).run Γ.P w = .ok (.bool r) w:=by
 cases hu:Γ.P.underlying T with
 |none=>rw[hu]at hT;cases hT
 |some d =>
 rw[hu]at hT;cases d<;>first|cases hT|skip
 have hg:∀op,(eqGuard op T x y v .nilFunc).run Γ.P w = .ok () w:=fun op=>by
  rcases hv with⟨_,rfl⟩|⟨_,f,vs,ws,rfl⟩<;>(unfold eqGuard;cases op<;>simp)
 have he':∀d,(Op.equalIn (d+1) T v .nilFunc).run Γ.P w = .ok b w:=fun d=>by
  rcases hv with⟨rfl,rfl⟩|⟨rfl,f,vs,ws,rfl⟩<;>simp[Op.equalIn,run_underlying hu]
 have he:(Op.equal T v .nilFunc).run Γ.P w = .ok b w:=he' 9999;rw[Sem.run_bind,hg];simp only[Result.andThen_ok];cases op<;>cases ho<;>simp[binOp,he]
theorem iW{o:Oper}{op:BinOp}{T T':Nat}{a:AV}{x y:Operand}{b r:Bool}(hop:o.op = .binOp op T x y T')(hx:ev Γ env x=a)(ha:Kg a=some b)(hy:ev Γ env y = .d .nilf)
  (ho:eqF op b=some r) (hT:FU (Γ.P.underlying T)=true):eu Γ nt env H o (.d (.bool r)):=by
 intro G ac w hW hF;refine⟨_, .d _ _ (.bool _),fun w' hb=>?_⟩;have e1:=bN hW hF x;have e2:=bN hW hF y;rw[hx]at e1;rw[hy]at e2;generalize hvx:ac.eval x=vx at e1;generalize hvy:ac.eval y=vy at e2;have e3:=Hu e1 ha;cases e2 with
 |d _ _ e2 =>
 have e4:=e2.JE;have:=Jd (x:=x) (y:=y) hT e3 ho w';unfold execOp;simp only[hop,hvx,hvy,e4,Sem.run_bind]at this ⊢;rw[this];rfl
end
end
section
open Go Go.RowKit
section
variable {P:Program}{ops:Array Oper}{Q':Exit→Act→World→Prop}{S:World→Prop}{m ex:Nat}
def pF(m ex:Nat)(listed:Array Bool):Prop:=∀j,m≤j→j≠ex→listed.getD j false=false
theorem pF.set{listed:Array Bool}{i:Nat}(h:pF m ex listed)(hi:i<m∨i=ex):pF m ex (listed.setIfInBounds i true):=fun j hj hx=>by rw[getD_set_ne false (by omega)];exact h j hj hx
theorem pF.lM{listed:Array Bool}{i:Nat}(h:pF m ex (listed.setIfInBounds i true))(hi:i<m∨i=ex):pF m ex listed:=fun j hj hx=>by have:=h j hj hx;rwa [getD_set_ne false (by omega)]at this
def l7(P:Program)(ops:Array Oper)(Q':Exit→Act→World→Prop)(S:World→Prop)(m ex:Nat):Nat→Array Bool→Act→World→Prop
 |0,listed,a,w=>Region.ready .any ops listed=[]∧Q' .normal a w
 |f+1,listed,a,w=>(Region.ready .any ops listed=[]→Q' .normal a w) ∧
  ∀i∈Region.ready .any ops listed,wpOp P ops Q' i (fun a' w'=>(pF m ex listed→(i<m∨i=ex)→S w')∧l7 P ops Q' S m ex f (listed.setIfInBounds i true) a' w') a w
theorem wA:∀(f:Nat) (listed:Array Bool) (a:Act) (w:World),l7 P ops Q' S m ex f listed a w→wpAny P .any ops Q' f listed a w
 |0,_,_,_,h=>h
 |f+1,listed,a,w,h=>⟨h.1,fun i hi=>wpOp_mono (fun a' w' h'=>wA f _ a' w' h'.2) (h.2 i hi)⟩
theorem r9{i:Nat}{oi:Oper}{v:Value}{Si:World→Prop}(hi:ops[i]?=some oi)(him:i<m)(hms:m≤ops.size)(hsel:∀(j:Nat) (o:Oper) cs b,ops[j]?=some o→o.op ≠ .select cs b)
  (hQ:∀c a w,¬Q' (.panic c) a w) (hSi:∀w,S w→Si w) (hlate:(∀w,Si w)∨∀j,m≤j→j≠ex→j<ops.size→mg ops 8 j i=true) :
  ∀(fuel:Nat) (listed:Array Bool) (a:Act) (w:World),listed.size=ops.size→Closed ops listed →
   (∀j oj,ops[j]?=some oj→j≠i→listed.getD j true=false→(∀e∈oj.after,Region.binds .any e=true→e.on≠i)→oi.apart ops oj=true) →
   i∈Region.ready .any ops listed→YieldsIf P ops Si oi v a→Si w→(pF m ex listed→S w) →
   l7 P ops Q' S m ex fuel (listed.setIfInBounds i true) (a.put oi.dst v) w→l7 P ops Q' S m ex (fuel+1) listed a w:=by
 intro fuel
 induction fuel with
 | zero =>
  intro listed a w hsz hcl _ hr hy hS hS0 H;refine⟨fun h=>(by rw[h]at hr;cases hr),fun j hj=>?_⟩;by_cases hji:j=i
  ·subst hji;exact hy.wpOp hi hS ⟨fun h _=>hS0 h,H⟩
  ·have:=ready_mono hj hji;rw[H.1]at this;cases this
 | succ fuel ih =>
  intro listed a w hsz hcl hfree hr hy hS hS0 H;refine⟨fun h=>(by rw[h]at hr;cases hr),fun j hj=>?_⟩;by_cases hji:j=i
  ·subst hji;exact hy.wpOp hi hS ⟨fun h _=>hS0 h,H⟩
  ·have h1:=H.2 j (ready_mono hj hji);obtain⟨hjun,oj,hoj,hall⟩:=mem_ready.1 hj;have hjs:j<ops.size:=(Array.getElem?_eq_some_iff.1 hoj).1;have hnot:∀e∈oj.after,Region.binds .any e=true→e.on≠i:=fun e he hb heq =>
    mV (mem_ready.1 hr).1 (by rw[←heq];exact hall e he hb)
   have h2:=wpOp_putIf hoj (hfree j oj hoj hji hjun hnot) (fun cs b=>hsel i oi cs b hi) (fun cs b=>hsel j oj cs b hoj) (fun c a w hq=>absurd hq (hQ c _ w)) hy h1;have hfree':∀k ok,ops[k]?=some ok→k≠i→(listed.setIfInBounds j true).getD k true=false →
     (∀e∈ok.after,Region.binds .any e=true→e.on≠i)→oi.apart ops ok=true:=fun k ok hk hki hun hno=>by
    refine hfree k ok hk hki ?_ hno;by_cases hjk:j=k
    ·subst hjk;exact hjun
    ·rw[getD_set_ne true hjk]at hun;exact hun
   refine wpOp_mono (fun a' w' h3=>?_) h2;have got:pF m ex listed→(j<m∨j=ex)→S w':=fun hy' hjm=>h3.2.1 (hy'.set (.inl him)) hjm
   have hSi':Si w':=by
    rcases hlate with hl|hl
    ·exact hl w'
    ·have late:∀q,m≤q→q≠ex→q<ops.size→(∀ok,ops[q]?=some ok→∀e∈ok.after,Region.binds .any e=true→listed.getD e.on false=true)→False:=fun q hq hqx hqs h =>
      mV (mem_ready.1 hr).1 (wV hcl 8 q (hl q hq hqx hqs) h)
     have yet:pF m ex listed:=fun q hq hqx=>by
      cases hc:listed.getD q false with
      |false=>rfl
      |true =>
       rcases Nat.lt_or_ge q ops.size with hqs|hqs
       ·exact (late q hq hqx hqs fun ok hok e he hb=>hcl q ok hok hc e he hb).elim
       ·simp[Nat.not_lt.2 (by omega:listed.size≤q)]at hc
     by_cases hjm:j<m∨j=ex
     ·exact hSi w' (got yet hjm)
     ·exact (late j (by omega) (by omega) hjs fun ok hok e he hb=>by
       have:ok=oj:=Option.some.inj (hok.symm.trans hoj)
       subst this;exact hall e he hb).elim
   have hS0':pF m ex (listed.setIfInBounds j true)→S w':=fun hyt=>by
    by_cases hjm:j<m∨j=ex
    ·exact got (hyt.lM hjm) hjm
    ·have:=hyt j (by omega) (by omega);rw[iH (by omega)]at this;cases this
   refine⟨fun hy' hjm=>got hy' hjm,ih (listed.setIfInBounds j true) a' w' (by simp[hsz]) (hcl.set hj) hfree' (ready_mono hr (Ne.symm hji)) h3.1 hSi' hS0' ?_⟩;rw[Array.setIfInBounds_comm _ _ hji];exact h3.2.2
end
section
variable {Γ:Ctx}{nt n0:Nat}{k:List It}{Q:Post}{env:Env}{H:List aN}
def cK(Γ:Ctx)(nt n0:Nat)(all:Array Oper)(ix:List Nat)(m ex f:Nat)(done:List Nat)(k:List It)(Q:Post)(env:Env)(H:List aN):Prop :=
 ∀G0 G a w,GLe n0 G0 G→n0≤H.length→df G nt a.tmps env→a.defers=[]→bM Γ.gl G H w→Closed all (cV all.size done)→l7 Γ.P all (aZ Γ.P (Conc Γ nt n0 G0 Q) k) (fun w'=>KB G [] w w') m ex f (cV all.size done) a w
def cF(Γ:Ctx)(nt n0:Nat)(all:Array Oper)(ix:List Nat)(m ex f:Nat)(done:List Nat)(k:List It)(Q:Post)(env:Env)(H:List aN):Prop :=
 ∀G0 G a w (w0:World) (GK:aO),GLe n0 G0 G→n0≤H.length→df G nt a.tmps env→a.defers=[]→bM Γ.gl G H w→(pF m ex (cV all.size done)→w0.heap.size≤w.heap.size∧KB GK [] w0 w)→Closed all (cV all.size done) →
  l7 Γ.P all (aZ Γ.P (Conc Γ nt n0 G0 Q) k) (fun w'=>KB GK [] w0 w') m ex f (cV all.size done) a w
theorem cK.go{all:Array Oper}{ix:List Nat}{m ex f:Nat}{done:List Nat}(h:cF Γ nt n0 all ix m ex f done k Q env H):cK Γ nt n0 all ix m ex f done k Q env H :=
 fun G0 G a w h0 hl hF hdf hW hcl=>h G0 G a w w G h0 hl hF hdf hW (fun _=>⟨Nat.le_refl _,fun _ _ _=>rfl⟩) hcl
theorem aa.Qw{id:Nat}{all:Array Oper}(ix:List Nat)(f m ex:Nat)(hf:all.size=f)(h:cK Γ nt n0 all ix m ex f [] k Q env H):aa Γ nt n0 (.code (.region id all true)::k) Q env H :=
 fun G0 G a w h0 hl hF hdf hW=>by
  have hW':bM Γ.gl G H { w with drawn:=w.drawn+1 }:=hW.same rfl rfl rfl rfl;simp only[aZ];subst hf;refine wp_region_any Γ.mixed (wA (S:=fun w'=>KB G [] { w with drawn:=w.drawn+1 } w') (m:=m) (ex:=ex) _ _ _ _ ?_);exact h G0 G a _ h0 hl hF hdf hW' (fun j oj _ hl2=>by rw[cV,getD_replicate_false]at hl2;cases hl2)
theorem aa.Sk{id:Nat}{all:Array Oper}{env':Env}{H':List aN}(ix:List Nat)(f m ex:Nat)(hf:all.size=f)(h:cK Γ nt n0 all ix m ex f [] [] (EO env' H') env H)(h2:aa Γ nt n0 k Q env' H'):aa Γ nt n0 (.code (.region id all true)::k) Q env H :=
 aa.cut (aa.Qw ix f m ex hf h) h2
theorem cK.mE{all:Array Oper}{m ex f:Nat}{done:List Nat}{o:Oper}{u:Value}{G:aO}{G0:aO}{a:Act}{w:World}(i:Nat)(hnp:fN Q)(ho:all[i]?=some o)(him:Nat.ble (i+1) m=true)(hms:Nat.ble m all.size=true)(hr:(Region.ready .any all (cV all.size done)).contains i=true)(hfree:Region.free .any all (cV all.size done) i=true)(hsel:Region.noSelect all=true)
  (hcl:Closed all (cV all.size done)) {S:World→Prop} (hS:pF m ex (cV all.size done)→S w) (hy:YieldsIf Γ.P all (fun _=>True) o u a) (h:l7 Γ.P all (aZ Γ.P (Conc Γ nt n0 G0 Q) k) S m ex f (cV all.size (i::done)) (a.put o.dst u) w) :
  l7 Γ.P all (aZ Γ.P (Conc Γ nt n0 G0 Q) k) S m ex (f+1) (cV all.size done) a w :=
 r9 (Si:=fun _=>True) ho (Nat.le_of_ble_eq_true him) (Nat.le_of_ble_eq_true hms) (Region.noSelect_spec hsel) (Jv hnp) (fun _ _=>trivial) (.inl fun _=>trivial) f _ a w (iY _ _) hcl (Region.free_spec ho hfree) (by simpa using hr) hy trivial hS h
theorem cK.jA{all:Array Oper}{ix:List Nat}{m ex f:Nat}{done:List Nat}{i:Nat}{o:Oper}{t:Nat}{v:AV}(hi:jp all.toList ix done=some (i,o))(hx:eZ Γ nt env H o v)(hnp:fN Q)(ho:all[i]?=some o)(hw:bL all env o=some true)(hd:o.dst=some t)(ht:Nat.ble (t+1) nt=true)(him:Nat.ble (i+1) m=true)(hms:Nat.ble m all.size=true)
  (hr:(Region.ready .any all (cV all.size done)).contains i=true) (hfree:(Region.free .any all (cV all.size done) i&&Region.noSelect all)=true)
  (h:cK Γ nt n0 all ix m ex f (i::done) k Q ((t,v)::env) H):cK Γ nt n0 all ix m ex (f+1) done k Q env H :=
 fun G0 G a w h0 hl hF hdf hW hcl=>by
  rw[Bool.and_eq_true]at hfree;have hr':i∈Region.ready .any all (cV all.size done):=by simpa using hr
  have hcl':=hcl.set hr';obtain⟨u,hu,hall⟩:=hx G a w hW hF;exact cK.mE (G:=G) i hnp ho him hms hr hfree.1 hfree.2 hcl (fun _ _ _ _=>rfl) (.inl ⟨bQ hF hw,fun w' _=>hall w'⟩) (h G0 G _ w h0 hl (by rw[hd];exact hF.put ht hu) (bZ a _ u hdf) hW hcl')
theorem cF.jA{all:Array Oper}{ix:List Nat}{m ex f:Nat}{done:List Nat}{i:Nat}{o:Oper}{t:Nat}{v:AV}(hi:jp all.toList ix done=some (i,o))(hx:eZ Γ nt env H o v)(hnp:fN Q)(ho:all[i]?=some o)(hw:bL all env o=some true)(hd:o.dst=some t)(ht:Nat.ble (t+1) nt=true)(him:Nat.ble (i+1) m=true)(hms:Nat.ble m all.size=true)
  (hr:(Region.ready .any all (cV all.size done)).contains i=true) (hfree:(Region.free .any all (cV all.size done) i&&Region.noSelect all)=true)
  (h:cF Γ nt n0 all ix m ex f (i::done) k Q ((t,v)::env) H):cF Γ nt n0 all ix m ex (f+1) done k Q env H :=
 fun G0 G a w w0 GK h0 hl hF hdf hW hS hcl=>by
  rw[Bool.and_eq_true]at hfree;have hr':i∈Region.ready .any all (cV all.size done):=by simpa using hr
  have hcl':=hcl.set hr';obtain⟨u,hu,hall⟩:=hx G a w hW hF;exact cK.mE (G:=G) i hnp ho him hms hr hfree.1 hfree.2 hcl (fun hy=>(hS hy).2) (.inl ⟨bQ hF hw,fun w' _=>hall w'⟩) (h G0 G _ w w0 GK h0 hl (by rw[hd];exact hF.put ht hu) (bZ a _ u hdf) hW (fun hy=>hS (hy.lM (.inl (Nat.le_of_ble_eq_true him)))) hcl')
theorem cK.pass{all:Array Oper}{ix:List Nat}{m ex f:Nat}{done:List Nat}{i:Nat}{o:Oper}{t:Nat}(hi:jp all.toList ix done=some (i,o))(hw:bL all env o=some false)(hnp:fN Q)(ho:all[i]?=some o)(hd:o.dst=some t)(ht:Nat.ble (t+1) nt=true)(him:Nat.ble (i+1) m=true)(hms:Nat.ble m all.size=true)
  (hr:(Region.ready .any all (cV all.size done)).contains i=true) (hfree:(Region.free .any all (cV all.size done) i&&Region.noSelect all)=true)
  (h:cK Γ nt n0 all ix m ex f (i::done) k Q ((t, .cH [])::env) H):cK Γ nt n0 all ix m ex (f+1) done k Q env H :=
 fun G0 G a w h0 hl hF hdf hW hcl=>by
  rw[Bool.and_eq_true]at hfree;have hr':i∈Region.ready .any all (cV all.size done):=by simpa using hr
  have hcl':=hcl.set hr';exact cK.mE (G:=G) i hnp ho him hms hr hfree.1 hfree.2 hcl (fun _ _ _ _=>rfl) (.inr ⟨bQ hF hw,rfl⟩) (h G0 G _ w h0 hl (by rw[hd];exact hF.put ht iF) (bZ a _ _ hdf) hW hcl')
theorem cK.dh{all:Array Oper}{ix:List Nat}{m ex f:Nat}{done:List Nat}{i:Nat}{o:Oper}{t:Nat}(h:cK Γ nt n0 all ix m ex f (i::done) k Q ((t, .cH [])::env) H)(hi:jp all.toList ix done=some (i,o):=by rfl)(hw:bL all env o=some false:=by rfl)(hnp:fN Q:=by exact fun _ _ _ h=>h)(ho:all[i]?=some o:=by rfl)(hd:o.dst=some t:=by rfl)(ht:Nat.ble (t+1) nt=true:=by rfl)(him:Nat.ble (i+1) m=true:=by rfl)(hms:Nat.ble m all.size=true:=by rfl)(hr:(Region.ready .any all (cV all.size done)).contains i=true:=by kernel_rfl)(hfree:(Region.free .any all (cV all.size done) i&&Region.noSelect all)=true:=by kernel_rfl):cK Γ nt n0 all ix m ex (f+1) done k Q env H:=cK.pass hi hw hnp ho hd ht him hms hr hfree h
theorem cF.pass{all:Array Oper}{ix:List Nat}{m ex f:Nat}{done:List Nat}{i:Nat}{o:Oper}{t:Nat}(hi:jp all.toList ix done=some (i,o))(hw:bL all env o=some false)(hnp:fN Q)(ho:all[i]?=some o)(hd:o.dst=some t)(ht:Nat.ble (t+1) nt=true)(him:Nat.ble (i+1) m=true)(hms:Nat.ble m all.size=true)
  (hr:(Region.ready .any all (cV all.size done)).contains i=true) (hfree:(Region.free .any all (cV all.size done) i&&Region.noSelect all)=true)
  (h:cF Γ nt n0 all ix m ex f (i::done) k Q ((t, .cH [])::env) H):cF Γ nt n0 all ix m ex (f+1) done k Q env H :=
 fun G0 G a w w0 GK h0 hl hF hdf hW hS hcl=>by
  rw[Bool.and_eq_true]at hfree;have hr':i∈Region.ready .any all (cV all.size done):=by simpa using hr
  have hcl':=hcl.set hr';exact cK.mE (G:=G) i hnp ho him hms hr hfree.1 hfree.2 hcl (fun hy=>(hS hy).2) (.inr ⟨bQ hF hw,rfl⟩) (h G0 G _ w w0 GK h0 hl (by rw[hd];exact hF.put ht iF) (bZ a _ _ hdf) hW (fun hy=>hS (hy.lM (.inl (Nat.le_of_ble_eq_true him)))) hcl')
theorem cF.dh{all:Array Oper}{ix:List Nat}{m ex f:Nat}{done:List Nat}{i:Nat}{o:Oper}{t:Nat}(h:cF Γ nt n0 all ix m ex f (i::done) k Q ((t, .cH [])::env) H)(hi:jp all.toList ix done=some (i,o):=by rfl)(hw:bL all env o=some false:=by rfl)(hnp:fN Q:=by exact fun _ _ _ h=>h)(ho:all[i]?=some o:=by rfl)(hd:o.dst=some t:=by rfl)(ht:Nat.ble (t+1) nt=true:=by rfl)(him:Nat.ble (i+1) m=true:=by rfl)(hms:Nat.ble m all.size=true:=by rfl)(hr:(Region.ready .any all (cV all.size done)).contains i=true:=by kernel_rfl)(hfree:(Region.free .any all (cV all.size done) i&&Region.noSelect all)=true:=by kernel_rfl):cF Γ nt n0 all ix m ex (f+1) done k Q env H:=cF.pass hi hw hnp ho hd ht him hms hr hfree h
theorem cK.load{all:Array Oper}{ix:List Nat}{m ex f:Nat}{done:List Nat}{i:Nat}{o:Oper}{t:Nat}{c:Prop}{v:AV}(hi:yQ all.toList ix done=some (i,o))(hq:qop Γ true o.op env H=some (c,v))(hc:c)(hnp:fN Q)(ho:all[i]?=some o)(hw:bL all env o=some true)(hd:o.dst=some t)(ht:Nat.ble (t+1) nt=true)(him:Nat.ble (i+1) m=true)(hms:Nat.ble m all.size=true)
  (hr:(Region.ready .any all (cV all.size done)).contains i=true) (hfree:(Region.free .any all (cV all.size done) i&&Region.noSelect all&&((List.range all.size).all fun j=>decide (j<m)||Nat.beq j ex||mg all 8 j i))=true)
  (h:cK Γ nt n0 all ix m ex f (i::done) k Q ((t,v)::env) H):cK Γ nt n0 all ix m ex (f+1) done k Q env H :=
 fun G0 G a w h0 hl hF hdf hW hcl=>by
  simp only[Bool.and_eq_true]at hfree;have hr':i∈Region.ready .any all (cV all.size done):=by simpa using hr
  have hcl':=hcl.set hr';obtain⟨u,hu,hall⟩:=sM (ws:=[]) rfl (by cases hop:o.op<;>first|rfl|(simp only[nS];split<;>rfl)) hW hF hq hc;refine r9 (Si:=fun w'=>KB G [] w w') ho (Nat.le_of_ble_eq_true him) (Nat.le_of_ble_eq_true hms) (Region.noSelect_spec hfree.1.2) (Jv hnp) (fun _ h=>h) (.inr fun j hj hjx hjs=>?_) f _ a w (iY _ _) hcl (Region.free_spec ho hfree.1.1) hr'
   (.inl ⟨bQ hF hw,fun w' hb=>hall w' hb⟩) (fun _ _ _=>rfl) (fun _ _ _ _=>rfl) (h G0 G _ w h0 hl (by rw[hd];exact hF.put ht hu) (bZ a _ u hdf) hW hcl')
  have:=List.all_eq_true.1 hfree.2 j (by simpa using hjs);simp only[Bool.or_eq_true,decide_eq_true_eq]at this;rcases this with (h|h)|h
  ·omega
  ·exact absurd (Nat.eq_of_beq_eq_true h) hjx
  ·exact h
theorem cK.fV{all:Array Oper}{ix:List Nat}{m ex f:Nat}{done:List Nat}{i:Nat}{o:Oper}{t:Nat}{c:Prop}{v:AV}(h:cK Γ nt n0 all ix m ex f (i::done) k Q ((t,v)::env) H)(hi:yQ all.toList ix done=some (i,o):=by rfl)(hq:qop Γ true o.op env H=some (c,v):=by rfl)(hc:c:=by (first|exact True.intro|omega))(hnp:fN Q:=by exact fun _ _ _ h=>h)(ho:all[i]?=some o:=by rfl)(hw:bL all env o=some true:=by rfl)(hd:o.dst=some t:=by rfl)(ht:Nat.ble (t+1) nt=true:=by rfl)(him:Nat.ble (i+1) m=true:=by rfl)(hms:Nat.ble m all.size=true:=by rfl)(hr:(Region.ready .any all (cV all.size done)).contains i=true:=by kernel_rfl)(hfree:(Region.free .any all (cV all.size done) i&&Region.noSelect all&&((List.range all.size).all fun j=>decide (j<m)||Nat.beq j ex||mg all 8 j i))=true:=by kernel_rfl):cK Γ nt n0 all ix m ex (f+1) done k Q env H:=cK.load hi hq hc hnp ho hw hd ht him hms hr hfree h
def zI(Γ:Ctx)(nt n0:Nat)(all:Array Oper)(ix:List Nat)(m ex f:Nat)(done:List Nat)(k:List It)(Q:Post):Post
 | .normal,env,H=>cF Γ nt n0 all ix m ex f done k Q env H
 | .panic c,env,H=>Q (.panic c) env H
 | .outgrown,env,H=>Q .outgrown env H
 |_,_,_=>False
theorem cF.back{all:Array Oper}{ix:List Nat}{m ex f:Nat}{done:List Nat}(h:cF Γ nt n0 all ix m ex f done k Q env H):aa Γ nt n0 [] (zI Γ nt n0 all ix m ex f done k Q) env H:=aa.done h
def cG(Γ:Ctx)(nt n0:Nat)(all:Array Oper)(ix:List Nat)(m ex f i:Nat)(done:List Nat)(k:List It)(Q:Post)(env:Env)(H:List aN):Prop :=
 i∈Region.ready .any all (cV all.size done)→∀G0 G a w (w0:World) (GK:aO),GLe n0 G0 G→n0≤H.length→df G nt a.tmps env→a.defers=[]→bM Γ.gl G H w→(pF m ex (cV all.size done)→w0.heap.size≤w.heap.size∧KB GK [] w0 w)→Closed all (cV all.size done) →
  wpOp Γ.P all (aZ Γ.P (Conc Γ nt n0 G0 Q) k) i (fun a' w'=>(pF m ex (cV all.size done)→(i<m∨i=ex)→KB GK [] w0 w')∧l7 Γ.P all (aZ Γ.P (Conc Γ nt n0 G0 Q) k) (fun w'=>KB GK [] w0 w') m ex f ((cV all.size done).setIfInBounds i true) a' w') a w
theorem cF.iC{all:Array Oper}{ix:List Nat}{m ex f:Nat}{done:List Nat}{i j:Nat}{o p:Oper}(hL:gW all.toList ix done=[(i,o),(j,p)])(hr:decide (Region.ready .any all (cV all.size done)=[i,j])=true)
  (h1:cG Γ nt n0 all ix m ex f i done k Q env H) (h2:cG Γ nt n0 all ix m ex f j done k Q env H):cF Γ nt n0 all ix m ex (f+1) done k Q env H :=
 fun G0 G a w w0 GK h0 hl hF hdf hW hS hcl=>by
  have hr':=of_decide_eq_true hr;refine⟨fun h=>(by rw[hr']at h;cases h),fun x hx=>?_⟩;have hx':=hx;rw[hr']at hx';simp only[List.mem_cons,List.not_mem_nil,or_false]at hx';rcases hx' with rfl|rfl
  ·exact h1 hx G0 G a w w0 GK h0 hl hF hdf hW hS hcl
  ·exact h2 hx G0 G a w w0 GK h0 hl hF hdf hW hS hcl
theorem cF.OW{all:Array Oper}{ix:List Nat}{m ex f:Nat}{done:List Nat}{i:Nat}{o:Oper}(hL:gW all.toList ix done=[(i,o)])(hr:decide (Region.ready .any all (cV all.size done)=[i])=true)
  (h1:cG Γ nt n0 all ix m ex f i done k Q env H):cF Γ nt n0 all ix m ex (f+1) done k Q env H :=
 fun G0 G a w w0 GK h0 hl hF hdf hW hS hcl=>by
  have hr':=of_decide_eq_true hr;refine⟨fun h=>(by rw[hr']at h;cases h),fun x hx=>?_⟩;have hx':=hx;rw[hr']at hx';simp only[List.mem_cons,List.not_mem_nil,or_false]at hx';obtain rfl:=hx';exact h1 hx G0 G a w w0 GK h0 hl hF hdf hW hS hcl
theorem cF.NG{all:Array Oper}{ix:List Nat}{m ex f:Nat}{done:List Nat}{i:Nat}{o:Oper}(h1:cG Γ nt n0 all ix m ex f i done k Q env H)(hL:gW all.toList ix done=[(i,o)]:=by rfl)(hr:decide (Region.ready .any all (cV all.size done)=[i])=true:=by kernel_rfl):cF Γ nt n0 all ix m ex (f+1) done k Q env H:=cF.OW hL hr h1
theorem cG.call{all:Array Oper}{ix:List Nat}{m ex f fn:Nat}{done:List Nat}{i:Nat}{o:Oper}{t:Nat}{args0 args:List AV}{X r':AV}{Y H':List aN}(hR:ACalls Γ fn args [] (fun r H=>r=X∧H=Y))(ho:all[i]?=some o)(hcall:eU Γ env o.op=some (fn,args0))(hwk:args0.map fgt=args)(hw:bL all env o=some true)(hd:o.dst=some t)(ht:Nat.ble (t+1) nt=true)
  (hab:AV.dF 0 args=true) (him:Nat.ble (i+1) m=true) (hrr:r'=AV.ren (names [] H.length Y.length) X) (hH:H'=iw [] (Y.map (aN.ren (names [] H.length Y.length))) H)
  (h:cF Γ nt n0 all ix m ex f (i::done) k Q ((t,r')::env) H'):cG Γ nt n0 all ix m ex f i done k Q env H :=
 fun hmem G0 G a w w0 GK h0 hl hF hdf hW hS hcl=>by
  have hcl':=hcl.set (i:=i) hmem;obtain⟨vs,hA0,hrun⟩:=ll hW hF hcall hR.1;have hA:jZ G vs args:=by
   rw[←hwk];refine⟨by simpa using hA0.1,fun i c hc=>?_⟩;rw[List.getElem?_map]at hc;cases hq:args0[i]? with
   |none=>simp[hq]at hc
   |some c0 =>
    simp[hq]at hc;subst hc;exact tP c0 _ _ (hA0.2 i c0 hq)
  have hp:mi [] H=some (([]:List aN).map (aN.ren [])):=rfl;have hWc:=hW.callee (ρ:=[]) (Hc:=[]) (by simp) hp rfl;have hAc:jZ (G.callee w H []) vs args:=by
   refine⟨hA.1,fun i c hc=>?_⟩;have e:args=AV.jy [] args:=(nQ _ hab).symm;have hc2:(AV.jy [] args)[i]?=some (AV.ren [] c):=by rw[dV,List.getElem?_map,hc];rfl
   rw[e]at hA;exact bA.rE (G:=G) (G':=G.callee w H []) (dR.refl G.imm) (fun i id h=>gP h) (fun i id n h=>iI h) c _ (eY hab hc) (hA.2 i _ hc2)
  have hcalls:=hR.2 _ w vs hWc hAc;unfold wpOp;simp only[ho];rw[if_pos (bQ hF hw)];refine .inl ?_;unfold Oper.wp;rw[hrun w];refine hcalls.mono ?_;rintro e w' ⟨v,r,Hc',Gc',rfl,⟨rfl,rfl⟩,hlen',hle,hv,hWc'⟩;obtain⟨b1,b2,b3,b4,b5⟩:=hW.back (by simp) (by simp) rfl hlen' hle hWc';have hbase:Gc'.base=w:=hle.base;have hkb':∀b,b<w.heap.size→w'.heap[b]?=w.heap[b]?:=fun b hb=>by
   have:=(hWc'.old b (by rw[hbase];exact hb) (fun hn=>by
    rw[hle.own0]at hn;obtain⟨id,o',hm,_⟩:=hn
    simp at hm)).1
   rwa [hbase]at this
  have hsz':w.heap.size≤w'.heap.size:=by have:=hWc'.size;rwa [hbase]at this
  have hk2:pF m ex (cV all.size done)→w0.heap.size≤w'.heap.size∧KB GK [] w0 w':=fun hy=>by
   obtain⟨s1,s2⟩:=hS hy;exact⟨by omega,fun b hb hid=>(hkb' b (by omega)).trans (s2 b hb hid)⟩
  have hF':df (G.back Gc' (names [] H.length Hc'.length)) nt (a.put (some t) v).tmps ((t,r')::env):=by
   rw[hrr];exact (hF.up b1 hW.lim).put ht (hv.ren b3 b4 b5)
  rw[←hH]at b2;have hlH:H.length≤H'.length:=by
   rw[hH,ik (by simp)];simp
  simp only[hd];exact⟨fun hy _=>(hk2 hy).2,h G0 _ (a.put (some t) v) w' w0 GK (h0.trans (b1.weaken hl)) (by omega) hF' (by simp[Act.put,hdf]) b2 (fun hy=>hk2 (hy.lM (.inl (Nat.le_of_ble_eq_true him)))) hcl'⟩
theorem cG.step{all:Array Oper}{ix:List Nat}{m ex f:Nat}{done:List Nat}{i:Nat}{o:Oper}(ho:all[i]?=some o)(him:Nat.ble m i=true)(hix:Nat.beq i ex=false)
  (h:aa Γ nt n0 [.ops all [o]] (zI Γ nt n0 all ix m ex f (i::done) k Q) env H):cG Γ nt n0 all ix m ex f i done k Q env H :=
 fun hmem G0 G a w w0 GK h0 hl hF hdf hW hS hcl=>by
  have hmi:=Nat.le_of_ble_eq_true him;have hcl':=hcl.set (i:=i) hmem;have his:i<all.size:=(Array.getElem?_eq_some_iff.1 ho).1;have hne:i≠ex:=fun e=>by rw[e,Nat.beq_refl]at hix;cases hix
  have hny:¬pF m ex (cV all.size (i::done)):=fun hy=>by
   have:=hy i hmi hne;rw[cV,iH (by rw[iY];exact his)]at this;cases this
  have hn:=h G0 G a w h0 hl hF hdf hW;simp only[aZ]at hn;unfold wpOp;simp only[ho];unfold wpList at hn;have fin:∀a' w',Conc Γ nt n0 G0 (zI Γ nt n0 all ix m ex f (i::done) k Q) .normal a' w'→l7 Γ.P all (aZ Γ.P (Conc Γ nt n0 G0 Q) k) (fun w'=>KB GK [] w0 w') m ex f ((cV all.size done).setIfInBounds i true) a' w':=fun a' w' hc=>by
   obtain⟨G',env',H',c1,c2,c3,c4,c5,c6⟩:=hc;exact c6 G0 G' a' w' w0 GK c1 c2 c3 c4 c5 (fun hy=>absurd hy hny) hcl'
  have pan:∀c a w,aZ Γ.P (Conc Γ nt n0 G0 (zI Γ nt n0 all ix m ex f (i::done) k Q)) [] (.panic c) a w→aZ Γ.P (Conc Γ nt n0 G0 Q) k (.panic c) a w:=fun c a w h=>by
   rw[dO];exact h
  have out:∀a w,aZ Γ.P (Conc Γ nt n0 G0 (zI Γ nt n0 all ix m ex f (i::done) k Q)) [] .outgrown a w→aZ Γ.P (Conc Γ nt n0 G0 Q) k .outgrown a w:=fun a w h=>by
   rw[dU];exact h
  split
  ·rename_i hw;rw[if_pos hw]at hn;rcases hn with hn|⟨hn,a',w',ho⟩
   ·exact .inl (pG (fun a' w' h'=>⟨fun _ hjm=>absurd hjm (by omega),fin a' w' (by simpa only [wpList,aZ]using h')⟩) pan out hn)
   ·exact .inr ⟨hn,a',w',out a' w' ho⟩
  ·rename_i hw;rw[if_neg hw]at hn;exact⟨fun _ hjm=>absurd hjm (by omega),fin _ _ (by simpa only [wpList,aZ]using hn)⟩
theorem cG.gH{all:Array Oper}{ix:List Nat}{m ex f:Nat}{done:List Nat}{i:Nat}{o:Oper}(h:aa Γ nt n0 [.ops all [o]] (zI Γ nt n0 all ix m ex f (i::done) k Q) env H)(ho:all[i]?=some o:=by rfl)(him:Nat.ble m i=true:=by rfl)(hix:Nat.beq i ex=false:=by rfl):cG Γ nt n0 all ix m ex f i done k Q env H:=cG.step ho him hix h
theorem cG.alloc{all:Array Oper}{ix:List Nat}{m ex f:Nat}{done:List Nat}{i:Nat}{o:Oper}{t T:Nat}{ti:TI}(ho:all[i]?=some o)(hop:o.op = .alloc T)(hw:bL all env o=some true)(hd:o.dst=some t)(ht:Nat.ble (t+1) nt=true)
  (hT:aY Γ.T T=some ti) (hix:Nat.beq i ex=true)
  (h:cF Γ nt n0 all ix m ex f (i::done) k Q ((t, .ptr H.length 0)::env) (H++[.cells (ti.zero.map .d)])):cG Γ nt n0 all ix m ex f i done k Q env H :=
 fun hmem G0 G a w w0 GK h0 hl hF hdf hW hS hcl=>by
  have hcl':=hcl.set (i:=i) hmem;have hie:=Nat.eq_of_beq_eq_true hix;obtain⟨ff⟩:=Γ.ty hT;obtain⟨z1,z2,z3⟩:=iq (imm:=G.imm) ff.zok;obtain⟨g1,g2⟩:=hW.new (cur:=ff.z.cells) (t:=T) (cs:=ti.zero.map .d) (by simp at z1 ⊢;omega) (fun c hc=>by obtain⟨y,hy,rfl⟩:=List.mem_map.1 hc;exact z2 y hy)
   (fun i c hc => by
    rw[List.getElem?_map]at hc;cases hq:ti.zero[i]? with
    |none=>simp[hq]at hc
    |some y=>simp[hq]at hc;subst hc;exact .d _ _ (z3 i y hq))
  have hv:bA (G.bind H.length w.heap.size) (.pointer (some ⟨w.heap.size,0,none⟩)) (.ptr H.length 0) := .ptr _ _ _ (by simp[aO.bind]);have hk2:pF m ex (cV all.size done)→w0.heap.size≤(w.alloc (.cells ff.z.cells T)).heap.size∧KB GK [] w0 (w.alloc (.cells ff.z.cells T)):=fun hy=>by
   obtain⟨s1,s2⟩:=hS hy;exact⟨(by show w0.heap.size≤(w.heap.push _).size;rw[Array.size_push];omega),fun b hb hid=>(heap_alloc_old w _ (by omega)).trans (s2 b hb hid)⟩
  have hn:=h G0 _ (a.put (some t) (.pointer (some ⟨w.heap.size,0,none⟩))) _ w0 GK (h0.trans (g1.weaken hl)) (by simp;omega) ((hF.up g1 hW.lim).put ht hv) (by simp[Act.put,hdf]) g2 (fun hy=>hk2 (hy.lM (.inr hie))) hcl';have hr:(execOp a.eval o).run Γ.P w = .ok (.value (.pointer (some ⟨w.heap.size,0,none⟩))) (w.alloc (.cells ff.z.cells T)):=by
   unfold execOp;simp[hop,Instr.alloc,zeroValue,typeInfo,ff.info,ff.hz,newVar,newRow]
  unfold wpOp;simp only[ho];rw[if_pos (bQ hF hw)];refine .inl ?_;unfold Oper.wp;rw[hr];simp only[Oper.upon,hd];exact⟨fun hy _=>(hk2 hy).2,hn⟩
theorem uY{P:Program}{ops:Array Oper}{Q':Exit→Act→World→Prop}{S:World→Prop}{m ex j:Nat}(hj:m≤j)(hjx:j≠ex):∀(f:Nat) (listed:Array Bool) (a:Act) (w:World),listed.getD j false=true→wpAny P .any ops Q' f listed a w→l7 P ops Q' S m ex f listed a w
 |0,_,_,_,_,h=>h
 |f+1,listed,a,w,hl,h=>⟨h.1,fun i hi=>wpOp_mono (fun a' w' h'=>⟨fun hy _=>(by have:=hy j hj hjx;rw[hl]at this;cases this),uY hj hjx f _ a' w' (getD_set_true hl) h'⟩) (h.2 i hi)⟩
theorem cF.late{all:Array Oper}{ix:List Nat}{m ex f:Nat}{done:List Nat}(hl:(done.any fun j=>Nat.ble m j&&!Nat.beq j ex&&Nat.ble (j+1) all.size)=true)(h:aT Γ nt n0 all ix f done k Q env H):cF Γ nt n0 all ix m ex f done k Q env H :=
 fun G0 G a w w0 GK h0 hln hF hdf hW hS hcl=>by
  obtain⟨j,hj,hb⟩:=List.any_eq_true.1 hl;rw[Bool.and_eq_true,Bool.and_eq_true]at hb;exact uY (Nat.le_of_ble_eq_true hb.1.1) (fun e=>by have:=hb.1.2;rw[e,Nat.beq_refl]at this;cases this) f _ a w (vS _ _ _ hj (Nat.le_of_ble_eq_true hb.2)) (h G0 G a w h0 hln hF hdf hW hcl)
theorem cF.Qa{all:Array Oper}{ix:List Nat}{m ex f:Nat}{done:List Nat}(h:aT Γ nt n0 all ix f done k Q env H)(hl:(done.any fun j=>Nat.ble m j&&!Nat.beq j ex&&Nat.ble (j+1) all.size)=true:=by rfl):cF Γ nt n0 all ix m ex f done k Q env H:=cF.late hl h
end
section
open Go Go.RowKit
variable {Γ:Ctx}{nt n0:Nat}{k:List It}{Q:Post}{env:Env}{H:List aN}
theorem cG.bO{all:Array Oper}{ix:List Nat}{m ex f fn:Nat}{done:List Nat}{i:Nat}{o:Oper}{t:Nat}{args0 args:List AV}{X r':AV}{Y H':List aN}(hR:ACalls Γ fn args [] (fun r H=>r=X∧H=Y)){bb:Prop}(h:bb)(ho:all[i]?=some o:=by rfl)(hcall:eU Γ env o.op=some (fn,args0):=by rfl)(hwk:args0.map fgt=args:=by rfl)(hw:bL all env o=some true:=by rfl)(hd:o.dst=some t:=by rfl)(ht:Nat.ble (t+1) nt=true:=by rfl)(hab:AV.dF 0 args=true:=by rfl)(him:Nat.ble (i+1) m=true:=by rfl)(hrr:r'=AV.ren (names [] H.length Y.length) X:=by rfl)(hH:H'=iw [] (Y.map (aN.ren (names [] H.length Y.length))) H:=by rfl)(hbb:bb→cF Γ nt n0 all ix m ex f (i::done) k Q ((t,r')::env) H':=by intro k;(try simp only[ny,nh,Nat.reduceAdd,Nat.reduceSub]);exact k):cG Γ nt n0 all ix m ex f i done k Q env H:=cG.call hR ho hcall hwk hw hd ht hab him hrr hH (hbb h)
theorem cG.aH{all:Array Oper}{ix:List Nat}{m ex f:Nat}{done:List Nat}{i:Nat}{o:Oper}{t T:Nat}{ti:TI}{bb:Prop}(h:bb)(ho:all[i]?=some o:=by rfl)(hop:o.op = .alloc T:=by rfl)(hw:bL all env o=some true:=by rfl)(hd:o.dst=some t:=by rfl)(ht:Nat.ble (t+1) nt=true:=by rfl)(hT:aY Γ.T T=some ti:=by rfl)(hix:Nat.beq i ex=true:=by rfl)(hbb:bb→cF Γ nt n0 all ix m ex f (i::done) k Q ((t, .ptr H.length 0)::env) (H++[.cells (ti.zero.map .d)]):=by intro k;simp only[nm,nz,Nat.reduceAdd];exact k):cG Γ nt n0 all ix m ex f i done k Q env H:=cG.alloc ho hop hw hd ht hT hix (hbb h)
end
end
end Go.Proofs.YtbpednchkndocaaGreatDoor.Av
