/- Empty slices written out. Regions that draw their order, step by step: pure steps are taken as soon as they may come up; the others in each order that is left. Regions that draw their order: reads ahead of all calls; calls that keep what there was; then the steps that write. A written row that a cell holds, frozen so far. -/
import Derived.Test.YtbpednchkndocaaGreatDoorPn
set_option linter.unusedVariables false
set_option linter.unusedSimpArgs false
set_option maxRecDepth 100000
set_option maxHeartbeats 64000000
namespace Go.Proofs.YtbpednchkndocaaGreatDoor.Av
section
open Go Go.RowKit
section
variable {Γ:Ctx}{nt n0:Nat}{k:List It}{Q:Post}{env:Env}{H:List aN}
theorem aa.Lr{all:Array Oper}{o:Oper}{l:List Oper}{t T e:Nat}{ti te:TI}(hop:o.op = .buildSlice T 0 #[])(hg:o.guard=none)(hd:o.dst=some t)(ht:Nat.ble (t+1) nt=true)
  (hT:aY Γ.T T=some ti) (hsh:ti.sh = .slice e) (he:aY Γ.T e=some te)
  (h:aa Γ nt n0 (.ops all l::k) Q ((t, .ms H.length 0)::env) (H++[.arr e te.size []])):aa Γ nt n0 (.ops all (o::l)::k) Q env H :=
 fun G0 G a w h0 hl hF hdf hW=>by
  obtain⟨f⟩:=Γ.ty hT;obtain⟨fe⟩:=Γ.ty he;have hrr:d9 G.imm te.size [] ([]:List Value) := .nil _ _;have hlit:=World.ownsRow_lit (base:=0) (e:=e) (size:=te.size) w #[] 0 (Nat.zero_le _) (by simp only[maxLen];omega) (by simp);obtain⟨g1,g2⟩:=hW.qW (w':=w.alloc (.cells #[] e)) (e:=e) (sz:=te.size) (n:=0) (v := .slice none 0 0) (v' := .slice (some ⟨w.heap.size,0,none⟩) 0 0) (es':=[]) (ys:=[]) H.length (.inr ⟨rfl,rfl,rfl⟩) (Nat.zero_le _) (fun h _=>by omega) rfl rfl rfl (by simp)
   (fun b hb => .inr (by simp[Value.ownBlock]at hb;omega)) (fun b hb _=>heap_alloc_old w _ hb)
   hlit hrr (H++[.arr e te.size []]) (by simp) (by simp) (fun i hi=>by
    rcases Nat.lt_or_ge i H.length with h1|h1
    ·simp[List.getElem?_append_left h1]
    ·rw[List.getElem?_append_right h1,List.getElem?_eq_none h1];have:i-H.length=(i-H.length-1)+1:=by omega
     rw[this];simp)
  have hn:=h G0 _ (a.put (some t) (.slice (some ⟨w.heap.size,0,none⟩) 0 0)) _ (h0.trans (g1.weaken hl)) (by simp;omega) ((hF.up g1 hW.lim).put ht (.ms _ _ _ (by simp[aO.rY]) rfl)) (by simp[Act.put,hdf]) g2;simp only[aZ]at hn ⊢;unfold wpList;rw[if_pos (ba hg)];refine .inl ?_;have hr:(execOp a.eval o).run Γ.P w = .ok (.value (.slice (some ⟨w.heap.size,0,none⟩) 0 0)) (w.alloc (.cells #[] e)):=by
   unfold execOp;have e0:Array.range 0=#[]:=Array.eq_empty_of_size_eq_zero (by simp);simp[hop,Instr.buildSlice,run_underlying (cQ f hsh),fe.sizeOf,Instr.fill,newRow,e0]
  unfold Oper.wp;rw[hr];simp only[Oper.upon,hd];exact hn
def enB(m:Nat):Env→Bool
 |[]=>true
 |(_,v)::r=>v.bnd m&&enB m r
theorem A8(m:Nat):∀(env:Env),enB m env=true→∀i,(env.get i).bnd m=true
 |[],_,i=>rfl
 |(j,v)::r,h,i=>by
  simp only[enB,Bool.and_eq_true]at h;simp only[Env.get];cases Nat.beq j i with
  |true=>exact h.1
  |false=>exact A8 m r h.2 i
theorem je.at_:∀{env':Env},je env env'→∀{i:Nat} {v:AV},(i,v)∈env'→env'.get i=env.get i
 | (j, u) :: r, h, i, v, hm => by
  simp only[Env.get];cases hb:Nat.beq j i with
  |true=>have:=Nat.eq_of_beq_eq_true hb;subst this;exact h.1.symm
  |false =>
   rcases List.mem_cons.1 hm with e|e
   ·cases e;rw[Nat.beq_refl]at hb;cases hb
   ·exact je.at_ h.2 e
theorem je.of:∀{l:Env},(∀i v,(i,v)∈l→env.get i=v)→je env l
 |[],_=>True.intro
 |(j,u)::r,h=>⟨h j u List.mem_cons_self,je.of fun i v hm=>h i v (List.mem_cons_of_mem _ hm)⟩
theorem je.mem:∀{l:Env},je env l→∀i v,(i,v)∈l→env.get i=v
 |(j,u)::r,h,i,v,hm=>by
  rcases List.mem_cons.1 hm with e|e
  ·cases e;exact h.1
  ·exact je.mem h.2 i v e
theorem je.self{env':Env}(h:je env env'):je env' env' :=
 je.of fun i v hm=>(h.at_ hm).trans (h.mem i v hm)
theorem aa.jr{I:Nat→Env→List aN→Prop}{n:Nat}{K:List It}(m:Nat)(env':Env)(m':Nat)(hlt:m'<n)(h1:Nat.ble n0 m=true)(h2:Nat.ble m H.length=true)(ho:dZ m (H.take m)=true)(hbe:enB m env'=true)(he:je env env')
  (hI:I m' env' (H.take m)):aa Γ nt n0 [] (fK Γ nt n0 I n K Q) env H :=
 aa.drop m (Nat.le_of_ble_eq_true h1) (Nat.le_of_ble_eq_true h2) (fun o h=>gb ho o h) he (A8 m _ hbe) (aa.round env' m' hlt he.self hI)
end
end
section
open Go Go.RowKit
theorem dU{P:Program}{Q':Exit→Act→World→Prop}:∀(k:List It) (a:Act) (w:World),aZ P Q' k .outgrown a w=Q' .outgrown a w
 |[],_,_=>rfl
 | .blk j::k,a,w=>by simp only[aZ];exact dU k a w
 | .code _::k,a,w=>by simp only[aZ];exact dU k a w
 | .ops _ _::k,a,w=>by simp only[aZ];exact dU k a w
 | .qops _ _::k,a,w=>by simp only[aZ];exact dU k a w
 | .sops _ _::k,a,w=>by simp only[aZ];exact dU k a w
 | .lp _::k,a,w=>by simp only[aZ];exact dU k a w
theorem pG{P:Program}{o:Oper}{a:Act}{w:World}{K K':Act→World→Prop}{Q Q':Exit→Act→World→Prop}(h:∀a w,K a w→K' a w)(hp:∀c a w,Q (.panic c) a w→Q' (.panic c) a w)(ho:∀a w,Q .outgrown a w→Q' .outgrown a w)
  (hh:o.wp P a w K Q):o.wp P a w K' Q':=by
 have hl:LetsOut Q→LetsOut Q':=fun ⟨a,w,h⟩=>⟨a,w,ho a w h⟩
 unfold Oper.wp at *;generalize (execOp a.eval o).run P w=r at *;cases r with
 | ok n w' =>
  cases n<;>simp only[Oper.upon]at hh ⊢ <;>
   first
    |exact h _ _ hh
    |exact Calls.mono hh (fun e w'' he=>by cases e<;>first|exact h _ _ he|exact hp _ _ _ he|exact hl he)
    |exact Rows.mono hh (fun _ _ he=>h _ _ he)
 |halt x w'=>cases x<;>simp only[Oper.upon]at hh ⊢<;>first|exact hh|exact hp _ _ _ hh
def PK:Op→Bool
 | .move _ | .assign _ | .pick _ _ _ | .fieldAddr _ _ _ | .field _ _ _ | .indexAddr _ _ _ | .index _ _ _ | .slice _ _ _ _ _ | .binOp _ _ _ _ _ | .makeFunc _ _ _ | .unOp _ _ _ | .nilCheck _ | .extract _ _ | .convert _ _ _=>true
 | .call c=>match c.callee with | .builtin .len | .builtin .max | .builtin .min=>true|_=>false
 |_=>false
def J4(done:List Nat)(o:Oper):Bool:=o.after.toList.all fun e=>!Region.binds .any e||done.contains e.on
def jp:List Oper→List Nat→List Nat→Option (Nat×Oper)
 |o::r,i::ix,done=>bif !done.contains i&&PK o.op&&J4 done o then some (i,o) else jp r ix done
 |_,_,_=>none
def gW:List Oper→List Nat→List Nat→List (Nat×Oper)
 |o::r,i::ix,done=>bif !done.contains i&&J4 done o then (i,o)::gW r ix done else gW r ix done
 |_,_,_=>[]
def cV(n:Nat):List Nat→Array Bool
 |[]=>Array.replicate n false
 |i::r=>(cV n r).setIfInBounds i true
theorem iY(n:Nat):∀d,(cV n d).size=n
 |[]=>by simp[cV]
 |i::r=>by simp[cV,iY n r]
section
variable {Γ:Ctx}{nt n0:Nat}{k:List It}{Q:Post}{env:Env}{H:List aN}
def aT(Γ:Ctx)(nt n0:Nat)(all:Array Oper)(ix:List Nat)(f:Nat)(done:List Nat)(k:List It)(Q:Post)(env:Env)(H:List aN):Prop :=
 ∀G0 G a w,GLe n0 G0 G→n0≤H.length→df G nt a.tmps env→a.defers=[]→bM Γ.gl G H w→Closed all (cV all.size done)→wpAny Γ.P .any all (aZ Γ.P (Conc Γ nt n0 G0 Q) k) f (cV all.size done) a w
def uV(Γ:Ctx)(nt n0:Nat)(all:Array Oper)(ix:List Nat)(f:Nat)(done:List Nat)(k:List It)(Q:Post):Post
 | .normal,env,H=>aT Γ nt n0 all ix f done k Q env H
 | .panic c,env,H=>Q (.panic c) env H
 | .outgrown,env,H=>Q .outgrown env H
 |_,_,_=>False
theorem aa.Sn{id:Nat}{all:Array Oper}(ix:List Nat)(f:Nat)(hf:all.size=f)(h:aT Γ nt n0 all ix f [] k Q env H):aa Γ nt n0 (.code (.region id all true)::k) Q env H :=
 fun G0 G a w h0 hl hF hdf hW=>by
  have hW':bM Γ.gl G H { w with drawn:=w.drawn+1 }:=hW.same rfl rfl rfl rfl;simp only[aZ];refine wp_region_any Γ.mixed ?_;subst hf;exact h G0 G a _ h0 hl hF hdf hW' (fun j oj _ hl2=>by rw[cV,getD_replicate_false]at hl2;cases hl2)
def Dy(Γ:Ctx)(nt n0:Nat)(all:Array Oper)(ix:List Nat)(f:Nat)(done:List Nat)(k:List It)(Q:Post)(env:Env)(H:List aN):List Nat→Prop
 |[]=>True
 |i::r=>(∃o,all[i]?=some o∧aa Γ nt n0 [.ops all [o]] (uV Γ nt n0 all ix f (i::done) k Q) env H)∧Dy Γ nt n0 all ix f done k Q env H r
theorem Dy.mem{all:Array Oper}{ix:List Nat}{f:Nat}{done:List Nat}:∀{L:List Nat} {i:Nat},Dy Γ nt n0 all ix f done k Q env H L→i∈L→∃o,all[i]?=some o∧aa Γ nt n0 [.ops all [o]] (uV Γ nt n0 all ix f (i::done) k Q) env H
 |x::r,i,h,hm=>by
  rcases List.mem_cons.1 hm with rfl|hm
  ·exact h.1
  ·exact Dy.mem h.2 hm
theorem aT.each{all:Array Oper}{ix:List Nat}{f:Nat}{done:List Nat}(L:List Nat)(hr:decide (Region.ready .any all (cV all.size done)=L)=true)(hne:L.isEmpty=false)(h:Dy Γ nt n0 all ix f done k Q env H L):aT Γ nt n0 all ix (f+1) done k Q env H :=
 fun G0 G a w h0 hl hF hdf hW hcl=>by
  have hr':=of_decide_eq_true hr;refine⟨fun h1=>(by rw[hr']at h1;subst h1;cases hne),fun j hj=>?_⟩;have hcl':=hcl.set hj;rw[hr']at hj;obtain⟨o,ho,hg⟩:=h.mem hj;have hn:=hg G0 G a w h0 hl hF hdf hW;simp only[aZ]at hn;unfold wpOp;simp only[ho];unfold wpList at hn;have fin:∀a' w',Conc Γ nt n0 G0 (uV Γ nt n0 all ix f (j::done) k Q) .normal a' w'→wpAny Γ.P .any all (aZ Γ.P (Conc Γ nt n0 G0 Q) k) f ((cV all.size done).setIfInBounds j true) a' w':=fun a' w' hc=>by
   obtain⟨G',env',H',c1,c2,c3,c4,c5,c6⟩:=hc;exact c6 G0 G' a' w' c1 c2 c3 c4 c5 hcl'
  have pan:∀c a w,aZ Γ.P (Conc Γ nt n0 G0 (uV Γ nt n0 all ix f (j::done) k Q)) [] (.panic c) a w→aZ Γ.P (Conc Γ nt n0 G0 Q) k (.panic c) a w:=fun c a w h=>by
   rw[dO];exact h
  have out:∀a w,aZ Γ.P (Conc Γ nt n0 G0 (uV Γ nt n0 all ix f (j::done) k Q)) [] .outgrown a w→aZ Γ.P (Conc Γ nt n0 G0 Q) k .outgrown a w:=fun a w h=>by
   rw[dU];exact h
  split
  ·rename_i hw;rw[if_pos hw]at hn;rcases hn with hn|⟨hn,a',w',ho⟩
   ·exact .inl (pG (fun a' w' h'=>fin a' w' (by simpa only [wpList,aZ]using h')) pan out hn)
   ·exact .inr ⟨hn,a',w',out a' w' ho⟩
  ·rename_i hw;rw[if_neg hw]at hn;exact fin _ _ (by simpa only [wpList,aZ]using hn)
theorem aT.one{all:Array Oper}{ix:List Nat}{f:Nat}{done:List Nat}{i:Nat}{o:Oper}(hL:gW all.toList ix done=[(i,o)])(ho:all[i]?=some o)(hr:decide (Region.ready .any all (cV all.size done)=[i])=true)
  (h:aa Γ nt n0 [.ops all [o]] (uV Γ nt n0 all ix f (i::done) k Q) env H):aT Γ nt n0 all ix (f+1) done k Q env H :=
 aT.each [i] hr rfl ⟨⟨o,ho,h⟩,trivial⟩
theorem aT.gq{all:Array Oper}{ix:List Nat}{f:Nat}{done:List Nat}{i:Nat}{o:Oper}(h:aa Γ nt n0 [.ops all [o]] (uV Γ nt n0 all ix f (i::done) k Q) env H)(hL:gW all.toList ix done=[(i,o)]:=by rfl)(ho:all[i]?=some o:=by rfl)(hr:decide (Region.ready .any all (cV all.size done)=[i])=true:=by kernel_rfl):aT Γ nt n0 all ix (f+1) done k Q env H:=aT.one hL ho hr h
theorem aT.two{all:Array Oper}{ix:List Nat}{f:Nat}{done:List Nat}{i j:Nat}{o o2:Oper}(hL:gW all.toList ix done=[(i,o),(j,o2)])(ho:all[i]?=some o)(ho2:all[j]?=some o2)(hr:decide (Region.ready .any all (cV all.size done)=[i,j])=true)
  (h:aa Γ nt n0 [.ops all [o]] (uV Γ nt n0 all ix f (i::done) k Q) env H) (h2:aa Γ nt n0 [.ops all [o2]] (uV Γ nt n0 all ix f (j::done) k Q) env H):aT Γ nt n0 all ix (f+1) done k Q env H :=
 aT.each [i,j] hr rfl ⟨⟨o,ho,h⟩,⟨o2,ho2,h2⟩,trivial⟩
theorem aT.three{all:Array Oper}{ix:List Nat}{f:Nat}{done:List Nat}{i j l:Nat}{o o2 o3:Oper}(hL:gW all.toList ix done=[(i,o),(j,o2),(l,o3)])(ho:all[i]?=some o)(ho2:all[j]?=some o2)(ho3:all[l]?=some o3)(hr:decide (Region.ready .any all (cV all.size done)=[i,j,l])=true)
  (h:aa Γ nt n0 [.ops all [o]] (uV Γ nt n0 all ix f (i::done) k Q) env H) (h2:aa Γ nt n0 [.ops all [o2]] (uV Γ nt n0 all ix f (j::done) k Q) env H) (h3:aa Γ nt n0 [.ops all [o3]] (uV Γ nt n0 all ix f (l::done) k Q) env H):aT Γ nt n0 all ix (f+1) done k Q env H :=
 aT.each [i,j,l] hr rfl ⟨⟨o,ho,h⟩,⟨o2,ho2,h2⟩,⟨o3,ho3,h3⟩,trivial⟩
theorem aT.go{all:Array Oper}{ix:List Nat}{f:Nat}{done:List Nat}(h:aT Γ nt n0 all ix f done k Q env H):aa Γ nt n0 [] (uV Γ nt n0 all ix f done k Q) env H:=aa.done h
theorem aT.fin{all:Array Oper}{ix:List Nat}{done:List Nat}(hr:(Region.ready .any all (cV all.size done)).isEmpty=true)(h:aa Γ nt n0 k Q env H):aT Γ nt n0 all ix 0 done k Q env H :=
 fun G0 G a w h0 hl hF hdf hW _=>⟨by simpa using hr,h G0 G a w h0 hl hF hdf hW⟩
theorem aT.cL{all:Array Oper}{ix:List Nat}{done:List Nat}(h:aa Γ nt n0 k Q env H)(hr:(Region.ready .any all (cV all.size done)).isEmpty=true:=by kernel_rfl):aT Γ nt n0 all ix 0 done k Q env H:=aT.fin hr h
def isLoad:Op→Bool | .load _ _=>true|_=>false
section
variable {G:aO}{w:World}{nn:Bool}{a:Act}{c:Prop}{v:AV}
theorem BQ{o:Oper}(hnl:isLoad o.op=false)(hW:bM Γ.gl G H w)(hF:df G nt a.tmps env)(hq:qop Γ nn o.op env H=some (c,v))(hc:c):
  ∃u,bA G u v∧∀w',(execOp a.eval o).run Γ.P w' = .ok (.value u) w':=by
 unfold execOp;generalize hop:o.op=op at hq hnl;cases op<;>try (simp[qop]at hq;done)
 case move x=>simp only[qop,jP,Option.some.injEq,Prod.mk.injEq]at hq;obtain⟨rfl,rfl⟩:=hq;exact⟨_,bN hW hF x,fun w'=>rfl⟩
 case assign x=>simp only[qop,jP,Option.some.injEq,Prod.mk.injEq]at hq;obtain⟨rfl,rfl⟩:=hq;exact⟨_,bN hW hF x,fun w'=>rfl⟩
 case pick x y z =>
  obtain⟨u,h1,h2⟩:=Ea hW hF hq;exact⟨u,h1,fun w'=>h2 w'⟩
 case load t x=>cases hnl
 case fieldAddr s x f =>
  obtain⟨u,h1,h2⟩:=pW hW hF hq;exact⟨u,h1,fun w'=>by simp[h2 w']⟩
 case field s x f =>
  obtain⟨u,h1,h2⟩:=Aa hW hF hq;exact⟨u,h1,fun w'=>by simp[h2 w']⟩
 case indexAddr t x y =>
  obtain⟨u,h1,h2⟩:=pV hW hF hq hc;exact⟨u,h1,fun w'=>by simp[h2 w']⟩
 case index t x y =>
  obtain⟨u,h1,h2⟩:=zZ hW hF hq hc;exact⟨u,h1,fun w'=>by simp[h2 w']⟩
 case slice t x lo hi mx =>
  cases mx with
  |some m=>simp[qop]at hq
  |none =>
   obtain⟨u,h1,h2⟩:=zY hW hF hq hc;exact⟨u,h1,fun w'=>by simp[h2 w']⟩
 case binOp op t x y t' =>
  obtain⟨u,h1,h2⟩:=Ab hW hF hq hc;exact⟨u,h1,fun w'=>by have:=h2 w';simp only[Sem.run_bind]at this ⊢;simp[this]⟩
 case makeFunc f first cap =>
  simp only[qop,Option.some.injEq,Prod.mk.injEq]at hq;obtain⟨rfl,rfl⟩:=hq;obtain⟨a1,a2⟩:=qw (Γ:=Γ) hW hF first
  obtain⟨b1,b2⟩:=qw (Γ:=Γ) hW hF cap;exact⟨_, .fn f _ _ _ _ a1 b1 a2 b2,fun w'=>by simp[Instr.makeFunc]⟩
 case unOp op t x =>
  have hx:=bN hW hF x;cases op<;>try (simp[qop]at hq;done)
  case neg =>
   simp only[qop]at hq;split at hq
   ·rename_i k n he;rw[he]at hx;exact⟨_,qM hq hc,fun w'=>by simp[hx.cT,Op.unary,Op.intArith]⟩
   ·cases hq
  case not =>
   simp only[qop]at hq;split at hq
   ·rename_i b he;rw[he]at hx;cases hq;exact⟨_, .d _ _ (.bool _),fun w'=>by simp[hx.fT,Op.unary]⟩
   ·cases hq
 case nilCheck x =>
  have hx:=bN hW hF x;simp only[qop]at hq;split at hq
  ·rename_i i o he;cases hq;rw[he]at hx;generalize hxv:a.eval x=xv at hx;cases hx with|ptr b _ _ hb=>exact⟨_, .ptr b _ _ hb,fun w'=>by simp[hxv]⟩
  ·rename_i i n sz j o he;cases hq;rw[he]at hx;generalize hxv:a.eval x=xv at hx;cases hx with|eptr b cap _ _ _ _ _ hb=>exact⟨_, .eptr b cap _ _ _ _ _ hb,fun w'=>by simp[hxv]⟩
  ·rename_i cs he;cases hq;rw[he]at hx;generalize hxv:a.eval x=xv at hx;cases hx with|d _ _ hd=>cases hd with|iptr b o _ h1 h2 h3=>exact⟨_, .d _ _ (.iptr b o _ h1 h2 h3),fun w'=>by simp[hxv]⟩
  ·rename_i i he;cases hq;rw[he]at hx;generalize hxv:a.eval x=xv at hx;cases hx with|it b _ hb=>exact⟨_, .it b _ hb,fun w'=>by simp[hxv]⟩
  ·cases hq
 case extract x i =>
  have hx:=bN hW hF x;simp only[qop]at hq;split at hq
  ·rename_i vs he;split at hq
   ·rename_i v' hv;cases hq;rw[he]at hx;generalize hxv:a.eval x=xv at hx;cases hx with
    |cH us _ hl h =>
     refine⟨_,h i v hv,fun w'=>?_⟩;have hlt:=aI hv;have:us[i]?=some (gv us.toList i):=by simp[gv,List.getD,show i<us.size by omega]
     simp[hxv,Instr.extract,this]
   ·cases hq
  ·cases hq
 case convert s d x =>
  have hx:=bN hW hF x;simp only[qop]at hq;split at hq
  ·rename_i tis k k' n h1 h2 h3;rw[h3]at hx;obtain⟨fs⟩:=Γ.ty h1;obtain⟨fd⟩:=Γ.ty h2;refine⟨_,xp hq hc,fun w'=>?_⟩;simp[hx.cT,convert,run_underlying fs.und,run_underlying (kX fd rfl),Conv.intToInt]
  ·rename_i s' h1 h2 h3;cases hq;rw[h3]at hx;obtain⟨fs⟩:=Γ.ty h1;obtain⟨fd⟩:=Γ.ty h2;refine⟨_,hx,fun w'=>?_⟩;simp[hx.gV,convert,run_underlying (gG fs rfl),run_underlying (gG fd rfl)]
  ·cases hq
 case call cl =>
  obtain⟨u,h1,h2⟩:=Eb hW hF (by simpa only [qop]using hq) o.type;exact⟨u,h1,fun w'=>h2 w'⟩
end
theorem u9{P:Program}{ops:Array Oper}{Q':Exit→Act→World→Prop}{m:Nat}:∀(f:Nat) (listed:Array Bool) (a:Act) (w:World),wpAny P .any ops Q' f listed a w→fB P ops Q' (fun _=>True) m f listed a w
 |0,_,_,_,h=>h
 |f+1,listed,a,w,h=>⟨h.1,fun i hi=>wpOp_mono (fun a' w' h'=>⟨fun _ _=>trivial,u9 f _ a' w' h'⟩) (h.2 i hi)⟩
theorem aT.first{all:Array Oper}{f:Nat}{done:List Nat}{o:Oper}{u:Value}{G0:aO}{a:Act}{w:World}(i:Nat)(hnp:fN Q)(ho:all[i]?=some o)(hr:(Region.ready .any all (cV all.size done)).contains i=true)(hfree:Region.free .any all (cV all.size done) i=true)(hsel:Region.noSelect all=true)
  (hcl:Closed all (cV all.size done)) (hy:YieldsIf Γ.P all (fun _=>True) o u a) (h:wpAny Γ.P .any all (aZ Γ.P (Conc Γ nt n0 G0 Q) k) f (cV all.size (i::done)) (a.put o.dst u) w) :
  wpAny Γ.P .any all (aZ Γ.P (Conc Γ nt n0 G0 Q) k) (f+1) (cV all.size done) a w:=by
 have him:i<all.size:=(Array.getElem?_eq_some_iff.1 ho).1;refine lZ (S:=fun _=>True) (m:=all.size) _ _ _ _ ?_;refine fF (Si:=fun _=>True) ho him (Nat.le_refl _) (Region.noSelect_spec hsel) (fun c a w hq=>?_) (fun _ h=>h) (.inl fun _=>trivial) f _ a w (iY _ _) hcl (Region.free_spec ho hfree) (by simpa using hr) hy trivial (fun _=>trivial) (u9 _ _ _ _ h);rw[dO]at hq;obtain⟨_,env,H,_,_,_,_,_,hq⟩:=hq;exact hnp c env H hq
theorem aT.pure{all:Array Oper}{ix:List Nat}{f:Nat}{done:List Nat}{i:Nat}(nn:Bool){o:Oper}{t:Nat}{c:Prop}{v:AV}(hi:jp all.toList ix done=some (i,o))(hnp:fN Q)(ho:all[i]?=some o)(hnl:isLoad o.op=false)(hw:bL all env o=some true)(hd:o.dst=some t)(ht:Nat.ble (t+1) nt=true)
  (hq:qop Γ nn o.op env H=some (c,v)) (hr:(Region.ready .any all (cV all.size done)).contains i=true) (hfree:(Region.free .any all (cV all.size done) i&&Region.noSelect all)=true) (hc:c)
  (h:aT Γ nt n0 all ix f (i::done) k Q ((t,v)::env) H):aT Γ nt n0 all ix (f+1) done k Q env H :=
 fun G0 G a w h0 hl hF hdf hW hcl=>by
  rw[Bool.and_eq_true]at hfree;have hr':i∈Region.ready .any all (cV all.size done):=by simpa using hr
  have hcl':=hcl.set hr';obtain⟨u,hu,hall⟩:=BQ hnl hW hF hq hc;exact aT.first i hnp ho hr hfree.1 hfree.2 hcl (.inl ⟨bQ hF hw,fun w' _=>hall w'⟩) (h G0 G _ w h0 hl (by rw[hd];exact hF.put ht hu) (bZ a _ u hdf) hW hcl')
theorem aT.lH{all:Array Oper}{ix:List Nat}{f:Nat}{done:List Nat}{i:Nat}(nn:Bool){o:Oper}{t:Nat}{c:Prop}{v:AV}(h:aT Γ nt n0 all ix f (i::done) k Q ((t,v)::env) H)(hi:jp all.toList ix done=some (i,o):=by rfl)(hnp:fN Q:=by exact fun _ _ _ h=>h)(ho:all[i]?=some o:=by rfl)(hnl:isLoad o.op=false:=by rfl)(hw:bL all env o=some true:=by rfl)(hd:o.dst=some t:=by rfl)(ht:Nat.ble (t+1) nt=true:=by rfl)(hq:qop Γ nn o.op env H=some (c,v):=by rfl)(hr:(Region.ready .any all (cV all.size done)).contains i=true:=by kernel_rfl)(hfree:(Region.free .any all (cV all.size done) i&&Region.noSelect all)=true:=by kernel_rfl)(hc:c:=by first|exact True.intro|omega|(simp only[IntKind.bits];omega)|(exact OG v hv _)):aT Γ nt n0 all ix (f+1) done k Q env H:=aT.pure nn hi hnp ho hnl hw hd ht hq hr hfree hc h
theorem aT.ku{all:Array Oper}{ix:List Nat}{f:Nat}{done:List Nat}{i:Nat}(nn:Bool){o:Oper}{t:Nat}{c:Prop}{v:AV}(h:aT Γ nt n0 all ix f (i::done) k Q ((t,v)::env) H)(hi:jp all.toList ix done=some (i,o):=by rfl)(hnp:fN Q:=by exact fun _ _ _ h=>h)(ho:all[i]?=some o:=by rfl)(hnl:isLoad o.op=false:=by rfl)(hw:bL all env o=some true:=by rfl)(hd:o.dst=some t:=by rfl)(ht:Nat.ble (t+1) nt=true:=by rfl)(hq:qop Γ nn o.op env H=some (c,v):=by rfl)(hr:(Region.ready .any all (cV all.size done)).contains i=true:=by kernel_rfl)(hfree:(Region.free .any all (cV all.size done) i&&Region.noSelect all)=true:=by kernel_rfl)(hc:c:=by first|exact True.intro|omega):aT Γ nt n0 all ix (f+1) done k Q env H:=aT.pure nn hi hnp ho hnl hw hd ht hq hr hfree hc h
theorem aT.jA{all:Array Oper}{ix:List Nat}{f:Nat}{done:List Nat}{i:Nat}{o:Oper}{t:Nat}{v:AV}(hi:jp all.toList ix done=some (i,o))(hx:eZ Γ nt env H o v)(hnp:fN Q)(ho:all[i]?=some o)(hw:bL all env o=some true)(hd:o.dst=some t)(ht:Nat.ble (t+1) nt=true)
  (hr:(Region.ready .any all (cV all.size done)).contains i=true) (hfree:(Region.free .any all (cV all.size done) i&&Region.noSelect all)=true)
  (h:aT Γ nt n0 all ix f (i::done) k Q ((t,v)::env) H):aT Γ nt n0 all ix (f+1) done k Q env H :=
 fun G0 G a w h0 hl hF hdf hW hcl=>by
  rw[Bool.and_eq_true]at hfree;have hr':i∈Region.ready .any all (cV all.size done):=by simpa using hr
  have hcl':=hcl.set hr';obtain⟨u,hu,hall⟩:=hx G a w hW hF;exact aT.first i hnp ho hr hfree.1 hfree.2 hcl (.inl ⟨bQ hF hw,fun w' _=>hall w'⟩) (h G0 G _ w h0 hl (by rw[hd];exact hF.put ht hu) (bZ a _ u hdf) hW hcl')
theorem aT.pass{all:Array Oper}{ix:List Nat}{f:Nat}{done:List Nat}{i:Nat}{o:Oper}{t:Nat}(hi:jp all.toList ix done=some (i,o))(hnp:fN Q)(ho:all[i]?=some o)(hw:bL all env o=some false)(hd:o.dst=some t)(ht:Nat.ble (t+1) nt=true)
  (hr:(Region.ready .any all (cV all.size done)).contains i=true) (hfree:(Region.free .any all (cV all.size done) i&&Region.noSelect all)=true)
  (h:aT Γ nt n0 all ix f (i::done) k Q ((t, .cH [])::env) H):aT Γ nt n0 all ix (f+1) done k Q env H :=
 fun G0 G a w h0 hl hF hdf hW hcl=>by
  rw[Bool.and_eq_true]at hfree;have hr':i∈Region.ready .any all (cV all.size done):=by simpa using hr
  have hcl':=hcl.set hr';exact aT.first i hnp ho hr hfree.1 hfree.2 hcl (.inr ⟨bQ hF hw,rfl⟩) (h G0 G _ w h0 hl (by rw[hd];exact hF.put ht iF) (bZ a _ _ hdf) hW hcl')
theorem aT.dh{all:Array Oper}{ix:List Nat}{f:Nat}{done:List Nat}{i:Nat}{o:Oper}{t:Nat}(h:aT Γ nt n0 all ix f (i::done) k Q ((t, .cH [])::env) H)(hi:jp all.toList ix done=some (i,o):=by rfl)(hnp:fN Q:=by exact fun _ _ _ h=>h)(ho:all[i]?=some o:=by rfl)(hw:bL all env o=some false:=by rfl)(hd:o.dst=some t:=by rfl)(ht:Nat.ble (t+1) nt=true:=by rfl)(hr:(Region.ready .any all (cV all.size done)).contains i=true:=by kernel_rfl)(hfree:(Region.free .any all (cV all.size done) i&&Region.noSelect all)=true:=by kernel_rfl):aT Γ nt n0 all ix (f+1) done k Q env H:=aT.pass hi hnp ho hw hd ht hr hfree h
def jY(env env':Env):Env→Prop
 |[]=>True
 |(i,_)::r=>env.get i=env'.get i∧jY env env' r
theorem jY.nil{env env':Env}:jY env env' []:=True.intro
theorem jY.cons{env env' r:Env}{i:Nat}{v:AV}(h:env.get i=env'.get i)(hr:jY env env' r):jY env env' ((i,v)::r):=⟨h,hr⟩
theorem jY.refl(env:Env):∀l,jY env env l
 |[]=>True.intro
 |(i,_)::r=>⟨rfl,jY.refl env r⟩
theorem jY.at_{env env':Env}:∀{l:Env},jY env env' l→∀i,Env.get l i = .top∨env.get i=env'.get i
 |[],_,i => .inl rfl
 |(j,v)::r,h,i=>by
  simp only[Env.get];cases hb:Nat.beq j i with
  |true=>have:=Nat.eq_of_beq_eq_true hb;subst this;exact .inr h.1
  |false=>exact jY.at_ h.2 i
theorem jY.Ta{env env':Env}{G:aO}{tmps:Array Value}(h:jY env env' env')(hF:df G nt tmps env):df G nt tmps env' :=
 ⟨hF.size,fun i=>by
  rcases h.at_ i with e|e
  ·rw[e];exact .top _
  ·rw[←e];exact hF.rel i⟩
def EO(env':Env)(H':List aN):Post
 | .normal,env,H=>jY env env' env'∧H=H'
 |_,_,_=>False
theorem aa.fg:aa Γ nt n0 [] (EO env H) env H:=aa.done ⟨jY.refl env env,rfl⟩
theorem aa.M6{env':Env}{H':List aN}(he:jY env env' env')(hH:H=H'):aa Γ nt n0 [] (EO env' H') env H:=aa.done ⟨he,hH⟩
theorem aa.bv{env':Env}{H':List aN}(hH:H=H')(he:jY env env' env':=by (repeat' (first|exact jY.nil|(apply jY.cons;rfl)))):aa Γ nt n0 [] (EO env' H') env H:=aa.M6 he hH
theorem aa.cut{c:Code}{env':Env}{H':List aN}(h1:aa Γ nt n0 [.code c] (EO env' H') env H)(h2:aa Γ nt n0 k Q env' H'):aa Γ nt n0 (.code c::k) Q env H :=
 fun G0 G a w h0 hl hF hdf hW=>by
  have hn:=h1 G0 G a w h0 hl hF hdf hW;simp only[aZ]at hn ⊢;refine wp_mono hn fun e a' w' hq=>?_
  obtain⟨G',env1,H1,c1,c2,c3,c4,c5,c6⟩:=hq;cases e with
  |normal =>
   obtain⟨c7,rfl⟩:=c6;exact h2 G0 G' a' w' c1 c2 (c7.Ta c3) c4 c5
  |_=>exact c6.elim
theorem aa.gu{id:Nat}{all:Array Oper}{env':Env}{H':List aN}(ix:List Nat)(f:Nat)(hf:all.size=f)(h:aT Γ nt n0 all ix f [] [] (EO env' H') env H)(h2:aa Γ nt n0 k Q env' H'):aa Γ nt n0 (.code (.region id all true)::k) Q env H :=
 aa.cut (aa.Sn ix f hf h) h2
end
end
section
open Go Go.RowKit
section
variable {Γ:Ctx}{nt n0:Nat}{k:List It}{Q:Post}{env:Env}{H:List aN}
def aW(Γ:Ctx)(nt n0:Nat)(all:Array Oper)(ix:List Nat)(m f:Nat)(done:List Nat)(k:List It)(Q:Post)(env:Env)(H:List aN):Prop :=
 ∀G0 G a w,GLe n0 G0 G→n0≤H.length→df G nt a.tmps env→a.defers=[]→bM Γ.gl G H w→Closed all (cV all.size done)→fB Γ.P all (aZ Γ.P (Conc Γ nt n0 G0 Q) k) (fun w'=>KB G [] w w') m f (cV all.size done) a w
def aK(Γ:Ctx)(nt n0:Nat)(all:Array Oper)(ix:List Nat)(m f:Nat)(done:List Nat)(k:List It)(Q:Post)(env:Env)(H:List aN):Prop :=
 ∀G0 G a w (w0:World) (GK:aO),GLe n0 G0 G→n0≤H.length→df G nt a.tmps env→a.defers=[]→bM Γ.gl G H w→(Yet m (cV all.size done)→w0.heap.size≤w.heap.size∧KB GK [] w0 w)→Closed all (cV all.size done) →
  fB Γ.P all (aZ Γ.P (Conc Γ nt n0 G0 Q) k) (fun w'=>KB GK [] w0 w') m f (cV all.size done) a w
theorem aW.go{all:Array Oper}{ix:List Nat}{m f:Nat}{done:List Nat}(h:aK Γ nt n0 all ix m f done k Q env H):aW Γ nt n0 all ix m f done k Q env H :=
 fun G0 G a w h0 hl hF hdf hW hcl=>h G0 G a w w G h0 hl hF hdf hW (fun _=>⟨Nat.le_refl _,fun _ _ _=>rfl⟩) hcl
theorem aa.Qv{id:Nat}{all:Array Oper}(ix:List Nat)(f m:Nat)(hf:all.size=f)(h:aW Γ nt n0 all ix m f [] k Q env H):aa Γ nt n0 (.code (.region id all true)::k) Q env H :=
 fun G0 G a w h0 hl hF hdf hW=>by
  have hW':bM Γ.gl G H { w with drawn:=w.drawn+1 }:=hW.same rfl rfl rfl rfl;simp only[aZ];subst hf;refine wp_region_any Γ.mixed (lZ (S:=fun w'=>KB G [] { w with drawn:=w.drawn+1 } w') (m:=m) _ _ _ _ ?_);exact h G0 G a _ h0 hl hF hdf hW' (fun j oj _ hl2=>by rw[cV,getD_replicate_false]at hl2;cases hl2)
theorem aa.fw{id:Nat}{all:Array Oper}{env':Env}{H':List aN}(ix:List Nat)(f m:Nat)(hf:all.size=f)(h:aW Γ nt n0 all ix m f [] [] (EO env' H') env H)(h2:aa Γ nt n0 k Q env' H'):aa Γ nt n0 (.code (.region id all true)::k) Q env H :=
 aa.cut (aa.Qv ix f m hf h) h2
theorem Jv{P:Program}{nt n0:Nat}{G0:aO}(hnp:fN Q):∀c a w,¬aZ P (Conc Γ nt n0 G0 Q) k (.panic c) a w:=fun c a w hq=>by
 rw[dO]at hq;obtain⟨_,env,H,_,_,_,_,_,hq⟩:=hq;exact hnp c env H hq
theorem aW.mE{all:Array Oper}{m f:Nat}{done:List Nat}{o:Oper}{u:Value}{G:aO}{G0:aO}{a:Act}{w:World}(i:Nat)(hnp:fN Q)(ho:all[i]?=some o)(him:Nat.ble (i+1) m=true)(hms:Nat.ble m all.size=true)(hr:(Region.ready .any all (cV all.size done)).contains i=true)(hfree:Region.free .any all (cV all.size done) i=true)(hsel:Region.noSelect all=true)
  (hcl:Closed all (cV all.size done)) {S:World→Prop} (hS:Yet m (cV all.size done)→S w) (hy:YieldsIf Γ.P all (fun _=>True) o u a) (h:fB Γ.P all (aZ Γ.P (Conc Γ nt n0 G0 Q) k) S m f (cV all.size (i::done)) (a.put o.dst u) w) :
  fB Γ.P all (aZ Γ.P (Conc Γ nt n0 G0 Q) k) S m (f+1) (cV all.size done) a w :=
 fF (Si:=fun _=>True) ho (Nat.le_of_ble_eq_true him) (Nat.le_of_ble_eq_true hms) (Region.noSelect_spec hsel) (Jv hnp) (fun _ _=>trivial) (.inl fun _=>trivial) f _ a w (iY _ _) hcl (Region.free_spec ho hfree) (by simpa using hr) hy trivial hS h
theorem aW.jA{all:Array Oper}{ix:List Nat}{m f:Nat}{done:List Nat}{i:Nat}{o:Oper}{t:Nat}{v:AV}(hi:jp all.toList ix done=some (i,o))(hx:eZ Γ nt env H o v)(hnp:fN Q)(ho:all[i]?=some o)(hw:bL all env o=some true)(hd:o.dst=some t)(ht:Nat.ble (t+1) nt=true)(him:Nat.ble (i+1) m=true)(hms:Nat.ble m all.size=true)
  (hr:(Region.ready .any all (cV all.size done)).contains i=true) (hfree:(Region.free .any all (cV all.size done) i&&Region.noSelect all)=true)
  (h:aW Γ nt n0 all ix m f (i::done) k Q ((t,v)::env) H):aW Γ nt n0 all ix m (f+1) done k Q env H :=
 fun G0 G a w h0 hl hF hdf hW hcl=>by
  rw[Bool.and_eq_true]at hfree;have hr':i∈Region.ready .any all (cV all.size done):=by simpa using hr
  have hcl':=hcl.set hr';obtain⟨u,hu,hall⟩:=hx G a w hW hF;exact aW.mE (G:=G) i hnp ho him hms hr hfree.1 hfree.2 hcl (fun _ _ _ _=>rfl) (.inl ⟨bQ hF hw,fun w' _=>hall w'⟩) (h G0 G _ w h0 hl (by rw[hd];exact hF.put ht hu) (bZ a _ u hdf) hW hcl')
theorem aW.cg{all:Array Oper}{ix:List Nat}{m f:Nat}{done:List Nat}{i:Nat}{o:Oper}{t:Nat}{v:AV}(h:aW Γ nt n0 all ix m f (i::done) k Q ((t,v)::env) H)(hi:jp all.toList ix done=some (i,o):=by rfl)(hx:eZ Γ nt env H o v:=by (apply eZ.q true;rfl;rfl;first|exact True.intro|omega))(hnp:fN Q:=by exact fun _ _ _ h=>h)(ho:all[i]?=some o:=by rfl)(hw:bL all env o=some true:=by rfl)(hd:o.dst=some t:=by rfl)(ht:Nat.ble (t+1) nt=true:=by rfl)(him:Nat.ble (i+1) m=true:=by rfl)(hms:Nat.ble m all.size=true:=by rfl)(hr:(Region.ready .any all (cV all.size done)).contains i=true:=by kernel_rfl)(hfree:(Region.free .any all (cV all.size done) i&&Region.noSelect all)=true:=by kernel_rfl):aW Γ nt n0 all ix m (f+1) done k Q env H:=aW.jA hi hx hnp ho hw hd ht him hms hr hfree h
theorem aK.jA{all:Array Oper}{ix:List Nat}{m f:Nat}{done:List Nat}{i:Nat}{o:Oper}{t:Nat}{v:AV}(hi:jp all.toList ix done=some (i,o))(hx:eZ Γ nt env H o v)(hnp:fN Q)(ho:all[i]?=some o)(hw:bL all env o=some true)(hd:o.dst=some t)(ht:Nat.ble (t+1) nt=true)(him:Nat.ble (i+1) m=true)(hms:Nat.ble m all.size=true)
  (hr:(Region.ready .any all (cV all.size done)).contains i=true) (hfree:(Region.free .any all (cV all.size done) i&&Region.noSelect all)=true)
  (h:aK Γ nt n0 all ix m f (i::done) k Q ((t,v)::env) H):aK Γ nt n0 all ix m (f+1) done k Q env H :=
 fun G0 G a w w0 GK h0 hl hF hdf hW hS hcl=>by
  rw[Bool.and_eq_true]at hfree;have hr':i∈Region.ready .any all (cV all.size done):=by simpa using hr
  have hcl':=hcl.set hr';obtain⟨u,hu,hall⟩:=hx G a w hW hF;exact aW.mE (G:=G) i hnp ho him hms hr hfree.1 hfree.2 hcl (fun hy=>(hS hy).2) (.inl ⟨bQ hF hw,fun w' _=>hall w'⟩) (h G0 G _ w w0 GK h0 hl (by rw[hd];exact hF.put ht hu) (bZ a _ u hdf) hW (fun hy=>hS (hy.lM (Nat.le_of_ble_eq_true him))) hcl')
theorem aK.cg{all:Array Oper}{ix:List Nat}{m f:Nat}{done:List Nat}{i:Nat}{o:Oper}{t:Nat}{v:AV}(h:aK Γ nt n0 all ix m f (i::done) k Q ((t,v)::env) H)(hi:jp all.toList ix done=some (i,o):=by rfl)(hx:eZ Γ nt env H o v:=by (apply eZ.q true;rfl;rfl;first|exact True.intro|omega))(hnp:fN Q:=by exact fun _ _ _ h=>h)(ho:all[i]?=some o:=by rfl)(hw:bL all env o=some true:=by rfl)(hd:o.dst=some t:=by rfl)(ht:Nat.ble (t+1) nt=true:=by rfl)(him:Nat.ble (i+1) m=true:=by rfl)(hms:Nat.ble m all.size=true:=by rfl)(hr:(Region.ready .any all (cV all.size done)).contains i=true:=by kernel_rfl)(hfree:(Region.free .any all (cV all.size done) i&&Region.noSelect all)=true:=by kernel_rfl):aK Γ nt n0 all ix m (f+1) done k Q env H:=aK.jA hi hx hnp ho hw hd ht him hms hr hfree h
theorem eZ.q{o:Oper}(nn:Bool){c:Prop}{v:AV}(hnl:isLoad o.op=false)(hq:qop Γ nn o.op env H=some (c,v))(hc:c):eZ Γ nt env H o v :=
 fun G a w hW hF=>BQ hnl hW hF hq hc
theorem aW.pass{all:Array Oper}{ix:List Nat}{m f:Nat}{done:List Nat}{i:Nat}{o:Oper}{t:Nat}(hi:jp all.toList ix done=some (i,o))(hw:bL all env o=some false)(hnp:fN Q)(ho:all[i]?=some o)(hd:o.dst=some t)(ht:Nat.ble (t+1) nt=true)(him:Nat.ble (i+1) m=true)(hms:Nat.ble m all.size=true)
  (hr:(Region.ready .any all (cV all.size done)).contains i=true) (hfree:(Region.free .any all (cV all.size done) i&&Region.noSelect all)=true)
  (h:aW Γ nt n0 all ix m f (i::done) k Q ((t, .cH [])::env) H):aW Γ nt n0 all ix m (f+1) done k Q env H :=
 fun G0 G a w h0 hl hF hdf hW hcl=>by
  rw[Bool.and_eq_true]at hfree;have hr':i∈Region.ready .any all (cV all.size done):=by simpa using hr
  have hcl':=hcl.set hr';exact aW.mE (G:=G) i hnp ho him hms hr hfree.1 hfree.2 hcl (fun _ _ _ _=>rfl) (.inr ⟨bQ hF hw,rfl⟩) (h G0 G _ w h0 hl (by rw[hd];exact hF.put ht iF) (bZ a _ _ hdf) hW hcl')
theorem aW.dh{all:Array Oper}{ix:List Nat}{m f:Nat}{done:List Nat}{i:Nat}{o:Oper}{t:Nat}(h:aW Γ nt n0 all ix m f (i::done) k Q ((t, .cH [])::env) H)(hi:jp all.toList ix done=some (i,o):=by rfl)(hw:bL all env o=some false:=by rfl)(hnp:fN Q:=by exact fun _ _ _ h=>h)(ho:all[i]?=some o:=by rfl)(hd:o.dst=some t:=by rfl)(ht:Nat.ble (t+1) nt=true:=by rfl)(him:Nat.ble (i+1) m=true:=by rfl)(hms:Nat.ble m all.size=true:=by rfl)(hr:(Region.ready .any all (cV all.size done)).contains i=true:=by kernel_rfl)(hfree:(Region.free .any all (cV all.size done) i&&Region.noSelect all)=true:=by kernel_rfl):aW Γ nt n0 all ix m (f+1) done k Q env H:=aW.pass hi hw hnp ho hd ht him hms hr hfree h
theorem aK.pass{all:Array Oper}{ix:List Nat}{m f:Nat}{done:List Nat}{i:Nat}{o:Oper}{t:Nat}(hi:jp all.toList ix done=some (i,o))(hw:bL all env o=some false)(hnp:fN Q)(ho:all[i]?=some o)(hd:o.dst=some t)(ht:Nat.ble (t+1) nt=true)(him:Nat.ble (i+1) m=true)(hms:Nat.ble m all.size=true)
  (hr:(Region.ready .any all (cV all.size done)).contains i=true) (hfree:(Region.free .any all (cV all.size done) i&&Region.noSelect all)=true)
  (h:aK Γ nt n0 all ix m f (i::done) k Q ((t, .cH [])::env) H):aK Γ nt n0 all ix m (f+1) done k Q env H :=
 fun G0 G a w w0 GK h0 hl hF hdf hW hS hcl=>by
  rw[Bool.and_eq_true]at hfree;have hr':i∈Region.ready .any all (cV all.size done):=by simpa using hr
  have hcl':=hcl.set hr';exact aW.mE (G:=G) i hnp ho him hms hr hfree.1 hfree.2 hcl (fun hy=>(hS hy).2) (.inr ⟨bQ hF hw,rfl⟩) (h G0 G _ w w0 GK h0 hl (by rw[hd];exact hF.put ht iF) (bZ a _ _ hdf) hW (fun hy=>hS (hy.lM (Nat.le_of_ble_eq_true him))) hcl')
def yQ:List Oper→List Nat→List Nat→Option (Nat×Oper)
 |o::r,i::ix,done=>bif !done.contains i&&isLoad o.op&&J4 done o then some (i,o) else yQ r ix done
 |_,_,_=>none
theorem aW.load{all:Array Oper}{ix:List Nat}{m f:Nat}{done:List Nat}{i:Nat}{o:Oper}{t:Nat}{c:Prop}{v:AV}(hi:yQ all.toList ix done=some (i,o))(hq:qop Γ true o.op env H=some (c,v))(hc:c)(hnp:fN Q)(ho:all[i]?=some o)(hw:bL all env o=some true)(hd:o.dst=some t)(ht:Nat.ble (t+1) nt=true)(him:Nat.ble (i+1) m=true)(hms:Nat.ble m all.size=true)
  (hr:(Region.ready .any all (cV all.size done)).contains i=true) (hfree:(Region.free .any all (cV all.size done) i&&Region.noSelect all&&((List.range all.size).all fun j=>decide (j<m)||mg all 8 j i))=true)
  (h:aW Γ nt n0 all ix m f (i::done) k Q ((t,v)::env) H):aW Γ nt n0 all ix m (f+1) done k Q env H :=
 fun G0 G a w h0 hl hF hdf hW hcl=>by
  simp only[Bool.and_eq_true]at hfree;have hr':i∈Region.ready .any all (cV all.size done):=by simpa using hr
  have hcl':=hcl.set hr';obtain⟨u,hu,hall⟩:=sM (ws:=[]) rfl (by cases hop:o.op<;>first|rfl|(simp only[nS];split<;>rfl)) hW hF hq hc;refine fF (Si:=fun w'=>KB G [] w w') ho (Nat.le_of_ble_eq_true him) (Nat.le_of_ble_eq_true hms) (Region.noSelect_spec hfree.1.2) (Jv hnp) (fun _ h=>h) (.inr fun j hj hjs=>?_) f _ a w (iY _ _) hcl (Region.free_spec ho hfree.1.1) hr'
   (.inl ⟨bQ hF hw,fun w' hb=>hall w' hb⟩) (fun _ _ _=>rfl) (fun _ _ _ _=>rfl) (h G0 G _ w h0 hl (by rw[hd];exact hF.put ht hu) (bZ a _ u hdf) hW hcl')
  have:=List.all_eq_true.1 hfree.2 j (by simpa using hjs);simp only[Bool.or_eq_true,decide_eq_true_eq]at this;rcases this with h|h
  ·omega
  ·exact h
theorem aW.fV{all:Array Oper}{ix:List Nat}{m f:Nat}{done:List Nat}{i:Nat}{o:Oper}{t:Nat}{c:Prop}{v:AV}(h:aW Γ nt n0 all ix m f (i::done) k Q ((t,v)::env) H)(hi:yQ all.toList ix done=some (i,o):=by rfl)(hq:qop Γ true o.op env H=some (c,v):=by rfl)(hc:c:=by (first|exact True.intro|omega))(hnp:fN Q:=by exact fun _ _ _ h=>h)(ho:all[i]?=some o:=by rfl)(hw:bL all env o=some true:=by rfl)(hd:o.dst=some t:=by rfl)(ht:Nat.ble (t+1) nt=true:=by rfl)(him:Nat.ble (i+1) m=true:=by rfl)(hms:Nat.ble m all.size=true:=by rfl)(hr:(Region.ready .any all (cV all.size done)).contains i=true:=by kernel_rfl)(hfree:(Region.free .any all (cV all.size done) i&&Region.noSelect all&&((List.range all.size).all fun j=>decide (j<m)||mg all 8 j i))=true:=by kernel_rfl):aW Γ nt n0 all ix m (f+1) done k Q env H:=aW.load hi hq hc hnp ho hw hd ht him hms hr hfree h
theorem aK.fin{all:Array Oper}{ix:List Nat}{m:Nat}{done:List Nat}(hr:(Region.ready .any all (cV all.size done)).isEmpty=true)(h:aa Γ nt n0 k Q env H):aK Γ nt n0 all ix m 0 done k Q env H :=
 fun G0 G a w w0 GK h0 hl hF hdf hW _ _=>⟨by simpa using hr,h G0 G a w h0 hl hF hdf hW⟩
theorem aK.cL{all:Array Oper}{ix:List Nat}{m:Nat}{done:List Nat}(h:aa Γ nt n0 k Q env H)(hr:(Region.ready .any all (cV all.size done)).isEmpty=true:=by kernel_rfl):aK Γ nt n0 all ix m 0 done k Q env H:=aK.fin hr h
theorem aK.quiet{all:Array Oper}{ix:List Nat}{m f:Nat}{done:List Nat}{i:Nat}{o:Oper}{t:Nat}{v:AV}(hL:gW all.toList ix done=[(i,o)])(hx:eu Γ nt env H o v)(ho:all[i]?=some o)(hw:bL all env o=some true)(hd:o.dst=some t)(ht:Nat.ble (t+1) nt=true)
  (hr:decide (Region.ready .any all (cV all.size done)=[i])=true) (him:Nat.ble (i+1) m=true) (h:aK Γ nt n0 all ix m f (i::done) k Q ((t,v)::env) H):aK Γ nt n0 all ix m (f+1) done k Q env H :=
 fun G0 G a w w0 GK h0 hl hF hdf hW hS hcl=>by
  have hr':=of_decide_eq_true hr;have hcl':=hcl.set (i:=i) (by rw[hr'];simp);obtain⟨u,hu,hrun⟩:=hx G a w hW hF;refine⟨fun h1=>(by rw[hr']at h1;cases h1),fun j hj=>?_⟩;have hji:j=i:=by rw[hr']at hj;simpa using hj
  subst hji;refine YieldsIf.wpOp (S:=fun w'=>w'=w) ho (.inl ⟨bQ hF hw,fun w' hw'=>by subst hw';exact hrun _ (Below.refl _ _)⟩) rfl ⟨fun hy _=>(hS hy).2,?_⟩;exact h G0 G _ w w0 GK h0 hl (by rw[hd];exact hF.put ht hu) (bZ a _ u hdf) hW (fun hy=>hS (hy.lM (Nat.le_of_ble_eq_true him))) hcl'
theorem eu.q{o:Oper}(nn:Bool){c:Prop}{v:AV}(hq:qop Γ nn o.op env H=some (c,v))(hc:c):eu Γ nt env H o v :=
 fun G a w hW hF=>pU hW hF hq hc
theorem aK.call{all:Array Oper}{ix:List Nat}{m f fn:Nat}{done:List Nat}{i:Nat}{o:Oper}{t:Nat}{args0 args:List AV}{X r':AV}{Y H':List aN}(hR:ACalls Γ fn args [] (fun r H=>r=X∧H=Y))(hL:gW all.toList ix done=[(i,o)])(hcall:eU Γ env o.op=some (fn,args0))(hwk:args0.map fgt=args)(ho:all[i]?=some o)(hw:bL all env o=some true)(hd:o.dst=some t)(ht:Nat.ble (t+1) nt=true)
  (hab:AV.dF 0 args=true) (hr:decide (Region.ready .any all (cV all.size done)=[i])=true) (him:Nat.ble (i+1) m=true) (hrr:r'=AV.ren (names [] H.length Y.length) X) (hH:H'=iw [] (Y.map (aN.ren (names [] H.length Y.length))) H)
  (h:aK Γ nt n0 all ix m f (i::done) k Q ((t,r')::env) H'):aK Γ nt n0 all ix m (f+1) done k Q env H :=
 fun G0 G a w w0 GK h0 hl hF hdf hW hS hcl=>by
  have hr':=of_decide_eq_true hr;have hcl':=hcl.set (i:=i) (by rw[hr'];simp);obtain⟨vs,hA0,hrun⟩:=ll hW hF hcall hR.1;have hA:jZ G vs args:=by
   rw[←hwk];refine⟨by simpa using hA0.1,fun i c hc=>?_⟩;rw[List.getElem?_map]at hc;cases hq:args0[i]? with
   |none=>simp[hq]at hc
   |some c0 =>
    simp[hq]at hc;subst hc;exact tP c0 _ _ (hA0.2 i c0 hq)
  have hp:mi [] H=some (([]:List aN).map (aN.ren [])):=rfl;have hWc:=hW.callee (ρ:=[]) (Hc:=[]) (by simp) hp rfl;have hAc:jZ (G.callee w H []) vs args:=by
   refine⟨hA.1,fun i c hc=>?_⟩;have e:args=AV.jy [] args:=(nQ _ hab).symm;have hc2:(AV.jy [] args)[i]?=some (AV.ren [] c):=by rw[dV,List.getElem?_map,hc];rfl
   rw[e]at hA;exact bA.rE (G:=G) (G':=G.callee w H []) (dR.refl G.imm) (fun i id h=>gP h) (fun i id n h=>iI h) c _ (eY hab hc) (hA.2 i _ hc2)
  have hcalls:=hR.2 _ w vs hWc hAc;refine⟨fun h1=>(by rw[hr']at h1;cases h1),fun j hj=>?_⟩;have hji:j=i:=by rw[hr']at hj;simpa using hj
  subst hji;unfold wpOp;simp only[ho];rw[if_pos (bQ hF hw)];refine .inl ?_;unfold Oper.wp;rw[hrun w];refine hcalls.mono ?_;rintro e w' ⟨v,r,Hc',Gc',rfl,⟨rfl,rfl⟩,hlen',hle,hv,hWc'⟩;obtain⟨b1,b2,b3,b4,b5⟩:=hW.back (by simp) (by simp) rfl hlen' hle hWc';have hbase:Gc'.base=w:=hle.base;have hkb':∀b,b<w.heap.size→w'.heap[b]?=w.heap[b]?:=fun b hb=>by
   have:=(hWc'.old b (by rw[hbase];exact hb) (fun hn=>by
    rw[hle.own0]at hn;obtain⟨id,o',hm,_⟩:=hn
    simp at hm)).1
   rwa [hbase]at this
  have hsz':w.heap.size≤w'.heap.size:=by have:=hWc'.size;rwa [hbase]at this
  have hk2:Yet m (cV all.size done)→w0.heap.size≤w'.heap.size∧KB GK [] w0 w':=fun hy=>by
   obtain⟨s1,s2⟩:=hS hy;exact⟨by omega,fun b hb hid=>(hkb' b (by omega)).trans (s2 b hb hid)⟩
  have hF':df (G.back Gc' (names [] H.length Hc'.length)) nt (a.put (some t) v).tmps ((t,r')::env):=by
   rw[hrr];exact (hF.up b1 hW.lim).put ht (hv.ren b3 b4 b5)
  rw[←hH]at b2;have hlH:H.length≤H'.length:=by
   rw[hH,ik (by simp)];simp
  simp only[hd];exact⟨fun hy _=>(hk2 hy).2,h G0 _ (a.put (some t) v) w' w0 GK (h0.trans (b1.weaken hl)) (by omega) hF' (by simp[Act.put,hdf]) b2 (fun hy=>hk2 (hy.lM (Nat.le_of_ble_eq_true him))) hcl'⟩
def yd(Γ:Ctx)(nt n0:Nat)(all:Array Oper)(ix:List Nat)(m f:Nat)(done:List Nat)(k:List It)(Q:Post):Post
 | .normal,env,H=>aK Γ nt n0 all ix m f done k Q env H
 | .panic c,env,H=>Q (.panic c) env H
 | .outgrown,env,H=>Q .outgrown env H
 |_,_,_=>False
theorem aK.back{all:Array Oper}{ix:List Nat}{m f:Nat}{done:List Nat}(h:aK Γ nt n0 all ix m f done k Q env H):aa Γ nt n0 [] (yd Γ nt n0 all ix m f done k Q) env H:=aa.done h
theorem aK.step{all:Array Oper}{ix:List Nat}{m f:Nat}{done:List Nat}{i:Nat}{o:Oper}(hL:gW all.toList ix done=[(i,o)])(ho:all[i]?=some o)(hr:decide (Region.ready .any all (cV all.size done)=[i])=true)(him:Nat.ble m i=true)
  (h:aa Γ nt n0 [.ops all [o]] (yd Γ nt n0 all ix m f (i::done) k Q) env H):aK Γ nt n0 all ix m (f+1) done k Q env H :=
 fun G0 G a w w0 GK h0 hl hF hdf hW hS hcl=>by
  have hr':=of_decide_eq_true hr;have hmi:=Nat.le_of_ble_eq_true him;have hcl':=hcl.set (i:=i) (by rw[hr'];simp);have his:i<all.size:=(Array.getElem?_eq_some_iff.1 ho).1;have hny:¬Yet m (cV all.size (i::done)):=fun hy=>by
   have:=hy i hmi;rw[cV,iH (by rw[iY];exact his)]at this;cases this
  refine⟨fun h1=>(by rw[hr']at h1;cases h1),fun j hj=>?_⟩;have hji:j=i:=by rw[hr']at hj;simpa using hj
  subst hji;have hn:=h G0 G a w h0 hl hF hdf hW;simp only[aZ]at hn;unfold wpOp;simp only[ho];unfold wpList at hn;have fin:∀a' w',Conc Γ nt n0 G0 (yd Γ nt n0 all ix m f (j::done) k Q) .normal a' w'→fB Γ.P all (aZ Γ.P (Conc Γ nt n0 G0 Q) k) (fun w'=>KB GK [] w0 w') m f ((cV all.size done).setIfInBounds j true) a' w':=fun a' w' hc=>by
   obtain⟨G',env',H',c1,c2,c3,c4,c5,c6⟩:=hc;exact c6 G0 G' a' w' w0 GK c1 c2 c3 c4 c5 (fun hy=>absurd hy hny) hcl'
  have pan:∀c a w,aZ Γ.P (Conc Γ nt n0 G0 (yd Γ nt n0 all ix m f (j::done) k Q)) [] (.panic c) a w→aZ Γ.P (Conc Γ nt n0 G0 Q) k (.panic c) a w:=fun c a w h=>by
   rw[dO];exact h
  have out:∀a w,aZ Γ.P (Conc Γ nt n0 G0 (yd Γ nt n0 all ix m f (j::done) k Q)) [] .outgrown a w→aZ Γ.P (Conc Γ nt n0 G0 Q) k .outgrown a w:=fun a w h=>by
   rw[dU];exact h
  split
  ·rename_i hw;rw[if_pos hw]at hn;rcases hn with hn|⟨hn,a',w',ho⟩
   ·exact .inl (pG (fun a' w' h'=>⟨fun _ hjm=>absurd hjm (by omega),fin a' w' (by simpa only [wpList,aZ]using h')⟩) pan out hn)
   ·exact .inr ⟨hn,a',w',out a' w' ho⟩
  ·rename_i hw;rw[if_neg hw]at hn;exact⟨fun _ hjm=>absurd hjm (by omega),fin _ _ (by simpa only [wpList,aZ]using hn)⟩
theorem aK.gH{all:Array Oper}{ix:List Nat}{m f:Nat}{done:List Nat}{i:Nat}{o:Oper}(h:aa Γ nt n0 [.ops all [o]] (yd Γ nt n0 all ix m f (i::done) k Q) env H)(hL:gW all.toList ix done=[(i,o)]:=by rfl)(ho:all[i]?=some o:=by rfl)(hr:decide (Region.ready .any all (cV all.size done)=[i])=true:=by kernel_rfl)(him:Nat.ble m i=true:=by rfl):aK Γ nt n0 all ix m (f+1) done k Q env H:=aK.step hL ho hr him h
end
end
section
open Go Go.RowKit
section
variable {Γ:Ctx}{nt n0:Nat}{k:List It}{Q:Post}{env:Env}{H:List aN}{G:aO}{w:World}
theorem aa.qO(idc i:Nat){id e sz n:Nat}{es:List D}{cs:List AV}(hc:hget H idc=some (.cells cs))(hi:cs[i]?=some (.ms id n))(hh:hget H id=some (.arr e sz es))(hn:es.length=n)
  (h:aa Γ nt n0 k Q env ((H.set id (.front e sz es.length)).set idc (.cells (cs.set i (.own sz es id))))):aa Γ nt n0 k Q env H :=
 fun G0 G a w h0 hl hF hdf hW=>by
  rw[dA]at hh hc;have hid:=aI hh;obtain⟨b,cur,t,a1,a2,a3,a4,a5,a6⟩:=hW.obj idc _ hc;have hu:=a5 i _ hi;generalize gv cur.toList i=u at hu;obtain⟨G',g1,g2,g3⟩:=hW.freeze hh;have hne:id≠idc:=fun e=>by subst e;rw[hc]at hh;cases hh
  cases hu with
  |ms _ _ _ hfl h2 =>
  subst hn;have hown:=g3 u hfl;have hfl':=g1.fl id es.length u hid hfl
  have g4:=g2.turn (id:=idc) (cs:=cs) (cs':=cs.set i (.own sz es id)) (by rw[List.getElem?_set_ne hne];exact hc) (by simp) (fun c hc'=>by
   rcases List.mem_or_eq_of_mem_set hc' with h1|h1
   ·exact a4 c h1
   ·subst h1;rfl) (fun j c c' h1 h2 v hv=>by
   by_cases hij:i=j
   ·subst hij;rw[List.getElem?_set_self (aI h1)]at h2;cases h2;rw[hi]at h1;cases h1;cases hv with
    |ms _ _ _ h3 h4=>rw[hfl']at h3;cases h3;exact hown
   ·rw[List.getElem?_set_ne hij,h1]at h2
    cases h2;exact hv)
  exact h G0 G' a w (h0.trans (g1.weaken hl)) (by simp;omega) (hF.up g1 hW.lim) hdf g4
end
section
open Go Go.RowKit
variable {Γ:Ctx}{nt n0:Nat}{k:List It}{Q:Post}{env:Env}{H:List aN}
theorem aK.bO{all:Array Oper}{ix:List Nat}{m f fn:Nat}{done:List Nat}{i:Nat}{o:Oper}{t:Nat}{args0 args:List AV}{X r':AV}{Y H':List aN}(hR:ACalls Γ fn args [] (fun r H=>r=X∧H=Y)){bb:Prop}(h:bb)(hL:gW all.toList ix done=[(i,o)]:=by rfl)(hcall:eU Γ env o.op=some (fn,args0):=by rfl)(hwk:args0.map fgt=args:=by rfl)(ho:all[i]?=some o:=by rfl)(hw:bL all env o=some true:=by rfl)(hd:o.dst=some t:=by rfl)(ht:Nat.ble (t+1) nt=true:=by rfl)(hab:AV.dF 0 args=true:=by rfl)(hr:decide (Region.ready .any all (cV all.size done)=[i])=true:=by kernel_rfl)(him:Nat.ble (i+1) m=true:=by rfl)(hrr:r'=AV.ren (names [] H.length Y.length) X:=by rfl)(hH:H'=iw [] (Y.map (aN.ren (names [] H.length Y.length))) H:=by rfl)(hbb:bb→aK Γ nt n0 all ix m f (i::done) k Q ((t,r')::env) H':=by intro k;(try simp only[ny,nh,Nat.reduceAdd,Nat.reduceSub]);exact k):aK Γ nt n0 all ix m (f+1) done k Q env H:=aK.call hR hL hcall hwk ho hw hd ht hab hr him hrr hH (hbb h)
end
section
open Go Go.RowKit
variable {Γ:Ctx}{nt n0:Nat}{k:List It}{Q:Post}{env:Env}{H:List aN}
theorem aa.Lp{all:Array Oper}{o:Oper}{l:List Oper}{t T e:Nat}{ti te:TI}{bb:Prop}(h:bb)(hop:o.op = .buildSlice T 0 #[]:=by rfl)(hg:o.guard=none:=by rfl)(hd:o.dst=some t:=by rfl)(ht:Nat.ble (t+1) nt=true:=by rfl)(hT:aY Γ.T T=some ti:=by rfl)(hsh:ti.sh = .slice e:=by rfl)(he:aY Γ.T e=some te:=by rfl)(hbb:bb→aa Γ nt n0 (.ops all l::k) Q ((t, .ms H.length 0)::env) (H++[.arr e te.size []]):=by intro k;simp only[List.length_cons,List.length_nil,Nat.reduceAdd,List.nil_append,List.cons_append];exact k):aa Γ nt n0 (.ops all (o::l)::k) Q env H:=aa.Lr hop hg hd ht hT hsh he (hbb h)
end
end
end Go.Proofs.YtbpednchkndocaaGreatDoor.Av
