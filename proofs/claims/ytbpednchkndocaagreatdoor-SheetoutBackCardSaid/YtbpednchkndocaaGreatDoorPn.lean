/- Regions that draw their order, where reads may come behind effects that they do not see. The steps of a tail. Regions that draw their order: reads, a new block, effects behind. Calls that hand on owned slices and work on objects; weaker arguments. Rows that are written: made, appended to, read, stored into, frozen. Rows that are written: how they come in (made, or from nil), grow, are told as texts, and are frozen. Contracts over more tables; some bit operations on signed numbers. Ranging over a text. A place in a row, told by what stands there. Regions that draw their order, with calls that lay new blocks ahead of the last steps. Quiet calls that read one object. Regions that draw their order: all orders, one by one. Slices and nil. -/
import Derived.Test.YtbpednchkndocaaGreatDoorPm
import Derived.OrdersHeld
import Derived.Test.YtbpednchkndocaaGreatDoorCx
import Derived.Laws.RangeString
import Derived.Lib.SliceRun
import Derived.Laws.Cover3
set_option linter.unusedVariables false
set_option linter.unusedSimpArgs false
set_option maxRecDepth 100000
set_option maxHeartbeats 64000000
namespace Go.Proofs.YtbpednchkndocaaGreatDoor.Av
section
open Go Go.RowKit
def KB(G:aO)(ws:List Nat)(w w':World):Prop:=∀b,b<w.heap.size→(∀id∈ws,G.loc id≠some b)→w'.heap[b]?=w.heap[b]?
def zL(H:List aN):List Nat→Bool
 |[]=>true
 |id::r=>(match hget H id with|some (.map _)=>true|some (.cells _)=>true|_=>false)&&zL H r
def nS(Γ:Ctx)(env:Env)(ws:List Nat):Op→Bool
 | .load _ x=>match ev Γ env x with | .ptr id _=>!ws.contains id|_=>true
 |_=>true
theorem wu{H:List aN}:∀{ws:List Nat},zL H ws=true→∀{id:Nat},id∈ws→∀{G:aO} (b:Nat),G.loc id=some b→∃o,H[id]?=some o∧∀G':aO,G'.loc id=some b→OB G' id o b
 |[],_,id,hm,_,_,_=>by simp at hm
 | i :: r, h, id, hm, G, b, hb => by
  simp only[zL,Bool.and_eq_true]at h;rcases List.mem_cons.1 hm with rfl|hm
  ·have h1:=h.1;split at h1
   ·rename_i es he;exact⟨.map es,by rw[←dA];exact he,fun G' h=>h⟩
   ·rename_i cs he;exact⟨.cells cs,by rw[←dA];exact he,fun G' h=>h⟩
   ·cases h1
  ·exact wu h.2 hm b hb
section
variable {Γ:Ctx}{G:aO}{H:List aN}{w:World}{nn:Bool}{nt n0:Nat}{a:Act}{k:List It}{Q:Post}{env:Env}{c:Prop}{v:AV}
theorem Bv(hW:bM Γ.gl G H w):∀{ws:List Nat},zL H ws=true→∀{id b:Nat},id∈ws→G.loc id=some b→G.imm b=[]
 |[],_,id,b,hm,_=>by simp at hm
 | i :: r, h, id, b, hm, hb => by
  simp only[zL,Bool.and_eq_true]at h;rcases List.mem_cons.1 hm with rfl|hm
  ·have h1:=h.1;split at h1
   ·rename_i es he;rw[dA]at he;obtain⟨b',ents,clock,e1,e2,e3,_⟩:=hW.obj _ _ he;rw[hb]at e1;cases e1;exact e3
   ·rename_i cs he;rw[dA]at he;obtain⟨b',cur,t,e1,e2,e3,e4,e5,e6⟩:=hW.obj _ _ he;rw[hb]at e1;cases e1;exact e6
   ·cases h1
  ·exact Bv hW h.2 hm hb
theorem ML{t:TypeId}{x:Operand}{ws:List Nat}(hws:zL H ws=true)(hld:nS Γ env ws (.load t x)=true)(hW:bM Γ.gl G H w)(hF:df G nt a.tmps env)(hq:qop Γ nn (.load t x) env H=some (c,v)):
  ∃u,bA G u v∧∀w',KB G ws w w'→(Instr.loadAt t (a.eval x)).run Γ.P w' = .ok u w':=by
 have hx:=bN hW hF x;simp only[qop]at hq;split at hq
 ·rename_i ti id off ht he;rw[he]at hx;obtain⟨f⟩:=Γ.ty ht;split at hq
  ·rename_i cs hh;split at hq
   ·rename_i v' hv;rw[jP]at hq;cases hq;rw[dA]at hh;obtain⟨b,cur,t',h1,h2,h3,h4,h5,h6⟩:=hW.obj id _ hh;generalize hxe:a.eval x=xv at hx;cases hx with
    | ptr b' _ _ hb =>
     rw[h1]at hb;cases hb;obtain⟨r,hr1,hr2⟩:=tF (G:=G) (b:=b) (o:=0) (us:=cur.toList) f h4 h5 hv;refine⟨r,hr1,fun w' hb=>?_⟩;have hlt:b<w.heap.size:=(Array.getElem?_eq_some_iff.1 h2).1;have hid:∀id'∈ws,G.loc id'≠some b:=fun id' hm hb'=>by
      obtain⟨o',e1,e2⟩:=wu hws hm b hb';have:=hW.inj id (.cells cs) id' o' b hh e1 h1 (e2 G hb');subst this;simp only[nS,he]at hld;simp[hm]at hld
     have hrow:=(hb b hlt hid).trans h2;have:=hr2 w' (fun i hi=>by rw[cell_of_row w' b (0+i) cur t' _ hrow];simp[gv,List.getD,show i<cur.size by omega]);simpa using this
   ·cases hq
  ·cases hq
 ·rename_i ti cs ht he;rw[he]at hx;obtain⟨f⟩:=Γ.ty ht;split at hq
  ·rename_i x' hv;cases hq;generalize hxe:a.eval x=xv at hx;cases hx with
   | d _ _ hd =>
    cases hd with
    | iptr b o _ hin hone h =>
     obtain⟨r,hr1,hr2⟩:=tE (G:=G) (b:=b) (o:=o) (us:=(G.imm b).drop o) f hone (fun i c hc=>by
      have:=h i c hc
      simpa[gv,List.getD]using this) hv
     refine⟨r,hr1,fun w' hb=>?_⟩
     have:=hr2 w' (fun i hi=>by
      have hcell:=hW.imm b (o+i) (by omega);have hlt:b<w.heap.size:=by have:=World.block_lt_of_cell? w _ hcell;simpa using this
      have hid:∀id'∈ws,G.loc id'≠some b:=fun id' hm hb'=>by
       obtain⟨o',e1,e2⟩:=wu hws hm b hb';have:=Bv hW hws hm hb';rw[this]at hin;simp only[List.length_nil]at hin;omega
      rw[World.cell?_of_block (hb b hlt hid),hcell];simp[gv,List.getD])
     simpa using this
  ·cases hq
 ·cases hq
theorem sM{o:Oper}{ws:List Nat}(hws:zL H ws=true)(hld:nS Γ env ws o.op=true)(hW:bM Γ.gl G H w)(hF:df G nt a.tmps env)(hq:qop Γ nn o.op env H=some (c,v))(hc:c):
  ∃u,bA G u v∧∀w',KB G ws w w'→(execOp a.eval o).run Γ.P w' = .ok (.value u) w':=by
 unfold execOp;generalize hop:o.op=op at hq hld;cases op<;>try (simp[qop]at hq;done)
 case move x=>simp only[qop,jP,Option.some.injEq,Prod.mk.injEq]at hq;obtain⟨rfl,rfl⟩:=hq;exact⟨_,bN hW hF x,fun w' _=>rfl⟩
 case assign x=>simp only[qop,jP,Option.some.injEq,Prod.mk.injEq]at hq;obtain⟨rfl,rfl⟩:=hq;exact⟨_,bN hW hF x,fun w' _=>rfl⟩
 case pick x y z =>
  obtain⟨u,h1,h2⟩:=Ea hW hF hq;exact⟨u,h1,fun w' _=>h2 w'⟩
 case load t x =>
  obtain⟨u,h1,h2⟩:=ML hws hld hW hF hq;exact⟨u,h1,fun w' hb=>by simp[h2 w' hb]⟩
 case fieldAddr s x f =>
  obtain⟨u,h1,h2⟩:=pW hW hF hq;exact⟨u,h1,fun w' hb=>by simp[h2 w']⟩
 case field s x f =>
  obtain⟨u,h1,h2⟩:=Aa hW hF hq;exact⟨u,h1,fun w' hb=>by simp[h2 w']⟩
 case indexAddr t x y =>
  obtain⟨u,h1,h2⟩:=pV hW hF hq hc;exact⟨u,h1,fun w' hb=>by simp[h2 w']⟩
 case index t x y =>
  obtain⟨u,h1,h2⟩:=zZ hW hF hq hc;exact⟨u,h1,fun w' hb=>by simp[h2 w']⟩
 case slice t x lo hi mx =>
  cases mx with
  |some m=>simp[qop]at hq
  |none =>
   obtain⟨u,h1,h2⟩:=zY hW hF hq hc;exact⟨u,h1,fun w' hb=>by simp[h2 w']⟩
 case binOp op t x y t' =>
  obtain⟨u,h1,h2⟩:=Ab hW hF hq hc;exact⟨u,h1,fun w' hb=>by have:=h2 w';simp only[Sem.run_bind]at this ⊢;simp[this]⟩
 case makeFunc f first cap =>
  simp only[qop,Option.some.injEq,Prod.mk.injEq]at hq;obtain⟨rfl,rfl⟩:=hq;obtain⟨a1,a2⟩:=qw (Γ:=Γ) hW hF first
  obtain⟨b1,b2⟩:=qw (Γ:=Γ) hW hF cap;exact⟨_, .fn f _ _ _ _ a1 b1 a2 b2,fun w' _=>by simp[Instr.makeFunc]⟩
 case unOp op t x =>
  have hx:=bN hW hF x;cases op<;>try (simp[qop]at hq;done)
  case neg =>
   simp only[qop]at hq;split at hq
   ·rename_i k n he;rw[he]at hx;exact⟨_,qM hq hc,fun w' _=>by simp[hx.cT,Op.unary,Op.intArith]⟩
   ·cases hq
  case not =>
   simp only[qop]at hq;split at hq
   ·rename_i b he;rw[he]at hx;cases hq;exact⟨_, .d _ _ (.bool _),fun w' _=>by simp[hx.fT,Op.unary]⟩
   ·cases hq
 case nilCheck x =>
  have hx:=bN hW hF x;simp only[qop]at hq;split at hq
  ·rename_i i o he;cases hq;rw[he]at hx;generalize hxv:a.eval x=xv at hx;cases hx with|ptr b _ _ hb=>exact⟨_, .ptr b _ _ hb,fun w' _=>by simp[hxv]⟩
  ·rename_i i n sz j o he;cases hq;rw[he]at hx;generalize hxv:a.eval x=xv at hx;cases hx with|eptr b cap _ _ _ _ _ hb=>exact⟨_, .eptr b cap _ _ _ _ _ hb,fun w' _=>by simp[hxv]⟩
  ·rename_i cs he;cases hq;rw[he]at hx;generalize hxv:a.eval x=xv at hx;cases hx with|d _ _ hd=>cases hd with|iptr b o _ h1 h2 h3=>exact⟨_, .d _ _ (.iptr b o _ h1 h2 h3),fun w' _=>by simp[hxv]⟩
  ·rename_i i he;cases hq;rw[he]at hx;generalize hxv:a.eval x=xv at hx;cases hx with|it b _ hb=>exact⟨_, .it b _ hb,fun w' _=>by simp[hxv]⟩
  ·cases hq
 case extract x i =>
  have hx:=bN hW hF x;simp only[qop]at hq;split at hq
  ·rename_i vs he;split at hq
   ·rename_i v' hv;cases hq;rw[he]at hx;generalize hxv:a.eval x=xv at hx;cases hx with
    |cH us _ hl h =>
     refine⟨_,h i v hv,fun w' _=>?_⟩;have hlt:=aI hv;have:us[i]?=some (gv us.toList i):=by simp[gv,List.getD,show i<us.size by omega]
     simp[hxv,Instr.extract,this]
   ·cases hq
  ·cases hq
 case convert s d x =>
  have hx:=bN hW hF x;simp only[qop]at hq;split at hq
  ·rename_i tis k k' n h1 h2 h3;rw[h3]at hx;obtain⟨fs⟩:=Γ.ty h1;obtain⟨fd⟩:=Γ.ty h2;refine⟨_,xp hq hc,fun w' _=>?_⟩;simp[hx.cT,convert,run_underlying fs.und,run_underlying (kX fd rfl),Conv.intToInt]
  ·rename_i s' h1 h2 h3;cases hq;rw[h3]at hx;obtain⟨fs⟩:=Γ.ty h1;obtain⟨fd⟩:=Γ.ty h2;refine⟨_,hx,fun w' _=>?_⟩;simp[hx.gV,convert,run_underlying (gG fs rfl),run_underlying (gG fd rfl)]
  ·cases hq
 case call cl =>
  obtain⟨u,h1,h2⟩:=Eb hW hF (by simpa only [qop]using hq) o.type;exact⟨u,h1,fun w' _=>h2 w'⟩
def LR(P:Program)(ops:Array Oper)(S:World→Prop)(K:Act→Prop):List Oper→Act→Prop
 |[],a=>K a
 |o::r,a=>∃u,YieldsIf P ops S o u a∧LR P ops S K r (a.put o.dst u)
def ou(P:Program)(ops:Array Oper)(Q:Exit→Act→World→Prop)(S:World→Prop):List Oper→Act→World→Prop
 |[],a,w=>Q .normal a w
 |o::r,a,w=>if Region.wanted o (yielded ops a.tmps) then o.wp P a w (fun a' w'=>S w'∧ou P ops Q S r a' w') Q else S w∧ou P ops Q S r (a.put o.dst undef) w
theorem wB{P:Program}{ops:Array Oper}{Q:Exit→Act→World→Prop}{S:World→Prop}:∀(l:List Oper) (k:Nat) (listed:Array Bool) (a:Act) (w:World),(∀j,l[j]?=ops[k+j]?) →
  Region.seqB .any ops l.length k listed=true→ou P ops Q S l a w→wpAnyH P .any ops Q S l.length listed a w
 |[],_,_,_,_,_,hB,h=>⟨by simpa[Region.seqB]using hB,h⟩
 | o :: l, k, listed, a, w, hl, hB, h => by
  have h0:ops[k]?=some o:=by simpa using (hl 0).symm
  simp only[List.length_cons,Region.seqB,Bool.and_eq_true,decide_eq_true_eq]at hB;refine wpAnyH_all hB.1 (by simp) fun i hi=>?_
  have:i=k:=by simpa using hi
  subst this;unfold wpOp;simp only[h0];unfold ou at h;have rc:∀a' w',ou P ops Q S l a' w'→wpAnyH P .any ops Q S l.length (listed.setIfInBounds i true) a' w':=fun a' w' h' =>
   wB l (i+1) _ a' w' (fun j=>by have:=hl (j+1);simpa[Nat.add_assoc,Nat.add_comm 1 j]using this) hB.2 h'
  split
  ·rename_i hw;rw[if_pos hw]at h;exact .inl (Oper.wp_mono (fun a' w' h'=>⟨h'.1,rc a' w' h'.2⟩) h)
  ·rename_i hw;rw[if_neg hw]at h;exact⟨h.1,rc _ _ h.2⟩
theorem uZ{P:Program}{ops:Array Oper}{Q:Exit→Act→World→Prop}{S:World→Prop}{g n:Nat}(hsel:Region.noSelect ops=true)(hQ:∀c a w,¬Q (.panic c) a w){w:World}(hS:S w){K:Act→Prop}
  (hK:∀listed a,Region.seqB .any ops g n listed=true→K a→wpAnyH P .any ops Q S g listed a w) :
  ∀(l:List Oper) (k:Nat) (listed:Array Bool) (a:Act),(∀j,j<l.length→l[j]?=ops[k+j]?)→k+l.length=n→Region.lexHead .any ops g l.length k listed=true→LR P ops S K l a →
  wpAnyH P .any ops Q S (l.length+g) listed a w
 |[],k,listed,a,_,hk,hB,h=>by
  have:k=n:=by simpa using hk
  subst this;rw[List.length_nil,Nat.zero_add];exact hK listed a (by simpa[Region.lexHead]using hB) h
 |o::l,k,listed,a,hl,hk,hB,h=>by
  have h0:ops[k]?=some o:=by simpa using (hl 0 (by simp)).symm
  simp only[List.length_cons,Region.lexHead,Bool.and_eq_true]at hB;obtain⟨⟨hr,hf⟩,hB'⟩:=hB;obtain⟨u,hy,hr'⟩:=h;rw[show (o::l).length+g=(l.length+g)+1 by simp;omega];refine wpAnyH_take h0 hsel hf hr (fun c a w hq=>absurd hq (hQ c _ w)) hy hS ?_;exact uZ hsel hQ hS hK l (k+1) _ _ (fun j hj=>by have:=hl (j+1) (by simp;omega);simpa[Nat.add_assoc,Nat.add_comm 1 j]using this) (by simp only[List.length_cons]at hk;omega) hB' hr'
def y9(ops:Array Oper)(n:Nat):Bool:=Region.noSelect ops&&decide (n≤ops.size)&&Region.lexHead .any ops (ops.size-n) n 0 (Array.replicate ops.size false)
def eZ(Γ:Ctx)(nt:Nat)(env:Env)(H:List aN)(o:Oper)(v:AV):Prop :=
 ∀(G:aO) (a:Act) (w:World),bM Γ.gl G H w→df G nt a.tmps env→∃u,bA G u v∧∀w',(execOp a.eval o).run Γ.P w' = .ok (.value u) w'
inductive dJ(Γ:Ctx)(nt:Nat)(H:List aN)(ws:List Nat):Env→List Oper→Env→Prop
 |nil (env:Env):dJ Γ nt H ws env [] env
 | cons {env env' : Env} {o : Oper} {l : List Oper} {t : Nat} {c : Prop} {v : AV} (nn : Bool) (hg : o.guard = none) (hd : o.dst = some t) (ht : Nat.ble (t + 1) nt = true) (hf : nS Γ env ws o.op = true) (hq : qop Γ nn o.op env H = some (c, v)) (hc : c)
   (h:dJ Γ nt H ws ((t,v)::env) l env'):dJ Γ nt H ws env (o::l) env'
 |consX {env env':Env} {o:Oper} {l:List Oper} {t:Nat} {v:AV} (hg:o.guard=none) (hd:o.dst=some t) (ht:Nat.ble (t+1) nt=true) (hx:eZ Γ nt env H o v) (h:dJ Γ nt H ws ((t,v)::env) l env'):dJ Γ nt H ws env (o::l) env'
def gz(Γ:Ctx)(nt:Nat)(ws:List Nat)(env:Env)(H:List aN)(o:Oper)(env':Env)(H':List aN):Prop :=
 o.guard=none∧H'.length=H.length∧∀(G:aO) (a:Act) (w:World),bM Γ.gl G H w→df G nt a.tmps env→∃u w',((execOp a.eval o).run Γ.P w = .ok (.value u) w'∨(u=undef∧(execOp a.eval o).run Γ.P w = .ok .skip w')) ∧
  bM Γ.gl G H' w'∧df G nt (a.put o.dst u).tmps env'∧KB G ws w w'∧w'.heap.size=w.heap.size
inductive fU(Γ:Ctx)(nt:Nat)(ws:List Nat):Env→List aN→List Oper→Env→List aN→Prop
 |nil (env:Env) (H:List aN):fU Γ nt ws env H [] env H
 |cons {env env1 env':Env} {H H1 H':List aN} {o:Oper} {l:List Oper} (hs:gz Γ nt ws env H o env1 H1) (h:fU Γ nt ws env1 H1 l env' H'):fU Γ nt ws env H (o::l) env' H'
theorem KB.trans{w1 w2:World}{ws:List Nat}(h:KB G ws w w1)(h':KB G ws w1 w2)(hs:w1.heap.size=w.heap.size):KB G ws w w2:=fun b hb hn=>(h' b (by omega) hn).trans (h b hb hn)
theorem Ki{all:Array Oper}{ws:List Nat}{H:List aN}(hws:zL H ws=true){env':Env}{l:List Oper}{w:World}{G:aO}(hW:bM Γ.gl G H w){K:Act→Prop}{ds:List Deferred}(hK:∀a,df G nt a.tmps env'→a.defers=ds→K a):
  ∀{env:Env},dJ Γ nt H ws env l env'→∀a,df G nt a.tmps env→a.defers=ds→LR Γ.P all (fun w'=>KB G ws w w') K l a:=by
 intro env h
 induction h with
 |nil env=>exact fun a hF hd=>hK a hF hd
 |cons nn hg hd ht hf hq hc h ih =>
  intro a hF hdf;obtain⟨u,hu,hr⟩:=sM hws hf hW hF hq hc;refine⟨u, .inl ⟨ba hg,fun w' hb=>hr w' hb⟩,?_⟩;rw[hd];exact ih hK (a.put _ u) (hF.put ht hu) (by simp[Act.put,hdf])
 |consX hg hd ht hx h ih =>
  intro a hF hdf;obtain⟨u,hu,hr⟩:=hx G a w hW hF;refine⟨u, .inl ⟨ba hg,fun w' _=>hr w'⟩,?_⟩;rw[hd];exact ih hK (a.put _ u) (hF.put ht hu) (by simp[Act.put,hdf])
theorem bZ(a:Act)(d:Option Nat)(u:Value){ds:List Deferred}(h:a.defers=ds):(a.put d u).defers=ds:=by
 cases d<;>simpa[Act.put]using h
theorem IB{all:Array Oper}{ws:List Nat}{w0:World}{G:aO}{Q':Exit→Act→World→Prop}{ds:List Deferred}{H':List aN}{env':Env}(hQ:∀a w,df G nt a.tmps env'→a.defers=ds→bM Γ.gl G H' w→Q' .normal a w):
  ∀{env:Env} {H:List aN} {l:List Oper},fU Γ nt ws env H l env' H'→∀a w,df G nt a.tmps env→a.defers=ds→bM Γ.gl G H w→KB G ws w0 w→w.heap.size=w0.heap.size→ou Γ.P all Q' (fun w'=>KB G ws w0 w') l a w:=by
 intro env H l h
 induction h with
 |nil env H=>exact fun a w hF hd hW _ _=>hQ a w hF hd hW
 |cons hs h ih =>
  intro a w hF hd hW hkb hsz;obtain⟨hg,hlen,hs⟩:=hs;obtain⟨u,w',hr,hW',hF',hk',hsz'⟩:=hs G a w hW hF;have hn:=ih hQ (a.put _ u) w' hF' (bZ a _ u hd) hW' (hkb.trans hk' hsz) (by omega);have hk2:=hkb.trans hk' hsz;unfold ou;rw[if_pos (ba hg)];unfold Oper.wp;rcases hr with hr|⟨rfl,hr⟩
  ·rw[hr];exact⟨hk2,hn⟩
  ·rw[hr];exact⟨hk2,hn⟩
def fN(Q:Post):Prop:=∀c env H,¬Q (.panic c) env H
theorem dO{P:Program}{Q':Exit→Act→World→Prop}{c:List PanicEntry}:∀(k:List It) (a:Act) (w:World),aZ P Q' k (.panic c) a w=Q' (.panic c) a w
 |[],_,_=>rfl
 | .blk j::k,a,w=>by simp only[aZ];exact dO k a w
 | .code _::k,a,w=>by simp only[aZ];exact dO k a w
 | .ops _ _::k,a,w=>by simp only[aZ];exact dO k a w
 | .qops _ _::k,a,w=>by simp only[aZ];exact dO k a w
 | .sops _ _::k,a,w=>by simp only[aZ];exact dO k a w
 | .lp _::k,a,w=>by simp only[aZ];exact dO k a w
theorem aa.Gh{id:Nat}{all:Array Oper}(ws:List Nat)(l:List Oper){l1 l2:List Oper}{env1 env':Env}{H':List aN}(hnp:fN Q)(hl:all=l.toArray)(hs:jS l=some (l1,l2))(hB:y9 l.toArray l1.length=true)(hws:zL H ws=true)
  (hh:dJ Γ nt H ws env l1 env1) (htl:fU Γ nt ws env1 H l2 env' H') (hlen:H.length≤H'.length) (h:aa Γ nt n0 k Q env' H'):aa Γ nt n0 (.code (.region id all true)::k) Q env H :=
 fun G0 G a w h0 hln hF hd hW=>by
  subst hl;have hW':bM Γ.gl G H { w with drawn:=w.drawn+1 }:=hW.same rfl rfl rfl rfl;simp only[aZ];have e:=lS hs;simp only[y9,Bool.and_eq_true,decide_eq_true_eq]at hB;obtain⟨⟨hsel,hn⟩,hlex⟩:=hB;have hsz:l.toArray.size=l1.length+l2.length:=by rw[e];simp
  refine wp_region_held (S:=fun w'=>KB G ws { w with drawn:=w.drawn+1 } w') Γ.mixed ?_;have tail:∀listed a',Region.seqB .any l.toArray l2.length l1.length listed=true→(df G nt a'.tmps env1∧a'.defers=[])→wpAnyH Γ.P .any l.toArray (aZ Γ.P (Conc Γ nt n0 G0 Q) k) (fun w'=>KB G ws { w with drawn:=w.drawn+1 } w') l2.length listed a' { w with drawn:=w.drawn+1 }:=fun listed a' hB hK =>
   wB l2 l1.length listed a' _ (fun j=>by rw[e];simp[List.getElem?_append_right]) hB
    (IB (Γ:=Γ) (fun a w hF hd hW=>h G0 G a w h0 (by omega) hF hd hW) htl a' _ hK.1 hK.2 hW' (fun b _ _=>rfl) rfl)
  have:=uZ (P:=Γ.P) (ops:=l.toArray) (Q:=aZ Γ.P (Conc Γ nt n0 G0 Q) k) (S:=fun w'=>KB G ws { w with drawn:=w.drawn+1 } w') (g:=l2.length) (n:=l1.length) hsel
   (fun c a w hq=>by rw[dO]at hq;obtain⟨_,env,H,_,_,_,_,_,hq⟩:=hq;exact hnp c env H hq) (w:={ w with drawn:=w.drawn+1 }) (fun b _ _=>rfl) (K:=fun a'=>df G nt a'.tmps env1∧a'.defers=[]) tail l1 0 (Array.replicate l.toArray.size false) a
   (fun j hj=>by rw[e];simp[List.getElem?_append_left hj]) (by simp) (by rw[hsz,Nat.add_sub_cancel_left]at hlex;rw[hsz];exact hlex)
   (Ki hws hW' (fun a hF hd=>⟨hF,hd⟩) hh a hF hd)
  rw[hsz];rw[hsz]at this;exact this
end
end
section
open Go Go.RowKit
section
variable {Γ:Ctx}{G:aO}{H:List aN}{w:World}{nt n0:Nat}{k:List It}{Q:Post}{env:Env}
theorem gz.q{ws:List Nat}{o:Oper}(nn:Bool){t:Nat}{c:Prop}{v:AV}(hg:o.guard=none)(hd:o.dst=some t)(ht:Nat.ble (t+1) nt=true)
  (hq:qop Γ nn o.op env H=some (c,v)) (hc:c):gz Γ nt ws env H o ((t,v)::env) H:=by
 refine⟨hg,rfl,fun G a w hW hF=>?_⟩;obtain⟨u,hu,hr⟩:=pU hW hF hq hc;exact⟨u,w, .inl (hr w (Below.refl _ _)),hW,by rw[hd];exact hF.put ht hu,fun b _ _=>rfl,rfl⟩
theorem gz.mapEntry{ws:List Nat}{o:Oper}{t T kt et id:Nat}{ti tk te:TI}{x y:Operand}{es:List (D×D)}{kd:D}{r:Option (Nat×D)}{zv:Value}(hop:o.op = .mapEntry T x y)(hg:o.guard=none)(hd:o.dst=some t)(ht:Nat.ble (t+1) nt=true)
  (hT:aY Γ.T T=some ti) (hsh:ti.sh = .map kt et) (hK:aY Γ.T kt=some tk) (hx:ev Γ env x = .mp id) (hy:ev Γ env y = .d kd) (hE:aY Γ.T et=some te) (hzd:(zD te).iQ=some zv) (hz:zeroV Γ.P et=some zv) (hh:hget H id=some (.map es)) (hfit:jL tk.sh kd=true) (hf:jq kd es 0=some r)
  (hid:ws.contains id=true):gz Γ nt ws env H o ((t,sZ es (zD te) r)::env) (H.set id (.map (oK es kd (zD te) r))):=by
  refine⟨hg,by simp,fun G a w hW hF=>?_⟩;obtain⟨f⟩:=Γ.ty hT;obtain⟨fk⟩:=Γ.ty hK;have hu:=vK f hsh;have hxv:=bN hW hF x;rw[hx]at hxv;have hyv:=bN hW hF y;rw[hy]at hyv;have hzr:=(D.ow (imm:=G.imm) hzd).1;rw[dA]at hh;obtain⟨b,ents,clock,h1,h2,h3,h4,h6,h7,h5⟩:=hW.obj id _ hh;generalize hxe:a.eval x=xv at hxv;generalize hye:a.eval y=yv at hyv;cases hxv with
  | mp b' _ hb' =>
   rw[h1]at hb';cases hb';cases hyv with
   | d _ _ hyd =>
    have hkey:=oN fk hfit hyd
    obtain⟨r',r1,r2⟩:=pY hkey hyd es ents.toList 0 r (by simpa using h4) (fun i k v hi=>by
     obtain⟨en,e1,e2⟩:=h5 i k v hi
     exact⟨en,by simpa using e1,e2⟩) hf
    have hfk:=MapKept.run_findKey (P:=Γ.P) (w:=w) fk.und r1;have hck:=MapKept.run_checkKey (P:=Γ.P) (w:=w) fk.und hkey false 9999;have fin:∀(ents':Array MapEntry) (clock':Nat) (rv:Value),bA G rv (sZ es (zD te) r)→ents'.size=(oK es kd (zD te) r).length→clock'=ents'.size→(∀(i:Nat) (en:MapEntry),ents'[i]?=some en→en.born=i) →
      (∀(i:Nat) (k v:D),(oK es kd (zD te) r)[i]?=some (k,v)→∃en,ents'[i]?=some en∧DRel G.imm en.key k∧DRel G.imm en.val v) →
      (Instr.mapEntry T (.map (some b)) yv).run Γ.P w = .ok rv { w with heap:=w.heap.setIfInBounds b (.map ents' clock') }→(∃u w',((execOp a.eval o).run Γ.P w = .ok (.value u) w'∨(u=undef∧(execOp a.eval o).run Γ.P w = .ok .skip w'))∧bM Γ.gl G (H.set id (.map (oK es kd (zD te) r))) w'∧df G nt (a.put o.dst u).tmps ((t,sZ es (zD te) r)::env)∧KB G ws w w'∧w'.heap.size=w.heap.size):=fun ents' clock' rv hrv p1 p2 p3 p4 hrun=>by
     have hW':=hW.wY hh h1 h2 p1 p2 p3 p4;have hr:(execOp a.eval o).run Γ.P w = .ok (.value rv) { w with heap:=w.heap.setIfInBounds b (.map ents' clock') }:=by
      unfold execOp;simp[hop,hxe,hye,hrun]
     refine⟨rv,_, .inl hr,hW',?_,fun b' hb' hn=>(MapKept.heap_set h2).2 b' (fun e=>hn id (by simpa using hid) (by rw[e];exact h1)),by simp⟩;rw[hd];exact hF.put ht hrv
    cases r with
    |none =>
     subst r2;obtain⟨p1,p2,p3⟩:=uK h4 h7 h5 hyd hzr;rw[←h6]at p1 p2 p3;exact fin _ (clock+1) (.tuple #[zv,goInt clock]) (by rw[h6,h4];exact nG (.d _ _ hzr) (.d _ _ (.int ..))) p1 (by simp[h6]) p2 p3 (by simp[Instr.mapEntry,run_underlying hu,uz hz,MapKept.run_getObj_map h2,hck,hfk,MapKept.run_setObj_map _ h2,Result.andThen])
    | some jv =>
     obtain⟨j,v⟩:=jv;obtain⟨_,v',rfl,hvr,⟨en,e1,e2,e3⟩,k',e4⟩:=r2;rw[Nat.sub_zero]at e4;rw[Nat.sub_zero]at e1;have e1':ents[j]?=some en:=by simpa using e1
     have ek:=rG hkey e3
     obtain⟨p1,p2,p3⟩:=qo h4 h7 h5 j (fun e=>{ e with key:=yv }) v (fun _=>rfl) (fun en0 k0 hq hkd=>by
      rw[e1']at hq;cases hq;rw[ek]at hkd
      exact⟨hkd,by rw[e2];exact hvr⟩)
     rw[xh es j k' v e4]at p1 p3;have hbn:=h7 j en e1'
     exact fin _ clock (.tuple #[v',goInt en.born]) (by rw[hbn];exact nG (.d _ _ hvr) (.d _ _ (.int ..))) p1 (by simp[h6]) p2 p3 (by
      simp[Instr.mapEntry,run_underlying hu,MapKept.run_getObj_map h2,hck,hfk,MapKept.run_setObj_map _ h2,Result.andThen,e1',Instr.keyThatStays,ek,sameBits_self hkey])
theorem gz.entryStore{ws:List Nat}{o:Oper}{T id:Nat}{x y z:Operand}{es:List (D×D)}{n:Int}{ky:IntKind}{vd:D}(hop:o.op = .entryStore T x y z)(hg:o.guard=none)(hd:o.dst=none)
  (hx:ev Γ env x = .mp id) (hy:ev Γ env y = .d (.int ky n)) (hz:ev Γ env z = .d vd) (hh:hget H id=some (.map es)) (hn:0≤n∧n<(es.length:Int))
  (hid:ws.contains id=true):gz Γ nt ws env H o env (H.set id (.map (jC es n.toNat vd))):=by
  refine⟨hg,by simp,fun G a w hW hF=>?_⟩;have hxv:=bN hW hF x;rw[hx]at hxv;have hyv:=bN hW hF y;rw[hy]at hyv;have hzv:=bN hW hF z;rw[hz]at hzv;rw[dA]at hh;obtain⟨b,ents,clock,h1,h2,h3,h4,h6,h7,h5⟩:=hW.obj id _ hh;generalize hxe:a.eval x=xv at hxv;have hye:=hyv.cT;generalize hze:a.eval z=zv at hzv;obtain⟨m,rfl⟩:=Int.eq_ofNat_of_zero_le hn.1;have hm:m<ents.size:=by omega
  cases hxv with
  | mp b' _ hb' =>
   rw[h1]at hb';cases hb';cases hzv with
   | d _ _ hzd =>
    obtain⟨p1,p2,p3⟩:=qo h4 h7 h5 m (fun e=>{ e with val:=zv }) vd (fun _=>rfl) (fun en0 k0 hq hkd=>⟨hkd,hzd⟩);have hW':=hW.wY hh h1 h2 p1 (clock':=clock) (by simp[h6]) p2 p3;have hfb:=CO h7 hm;have hrun:(Instr.entryStore T (.map (some b)) (.int ky (m:Int)) zv).run Γ.P w = .ok () { w with heap:=w.heap.setIfInBounds b (.map (ents.modify m fun e=>{ e with val:=zv }) clock) }:=by
     simp[Instr.entryStore,MapKept.run_getObj_map h2,asInt,asIntOf,hfb,MapKept.run_setObj_map _ h2,Result.andThen]
    have hr:(execOp a.eval o).run Γ.P w = .ok .skip { w with heap:=w.heap.setIfInBounds b (.map (ents.modify m fun e=>{ e with val:=zv }) clock) }:=by
     unfold execOp;simp[hop,hxe,hye,hze,hrun]
    refine⟨undef,_, .inr ⟨rfl,hr⟩,hW',?_,fun b' hb' hn'=>(MapKept.heap_set h2).2 b' (fun e=>hn' id (by simpa using hid) (by rw[e];exact h1)),by simp⟩;rw[hd];exact hF
end
end
section
open Go Go.RowKit
section
variable {P:Program}{ops:Array Oper}{Q':Exit→Act→World→Prop}{S:World→Prop}{m:Nat}
def Yet(m:Nat)(listed:Array Bool):Prop:=∀j,m≤j→listed.getD j false=false
theorem Yet.set{listed:Array Bool}{i:Nat}(h:Yet m listed)(hi:i<m):Yet m (listed.setIfInBounds i true):=fun j hj=>by rw[getD_set_ne false (by omega)];exact h j hj
theorem Yet.lM{listed:Array Bool}{i:Nat}(h:Yet m (listed.setIfInBounds i true))(hi:i<m):Yet m listed:=fun j hj=>by have:=h j hj;rwa [getD_set_ne false (by omega)]at this
def fB(P:Program)(ops:Array Oper)(Q':Exit→Act→World→Prop)(S:World→Prop)(m:Nat):Nat→Array Bool→Act→World→Prop
 |0,listed,a,w=>Region.ready .any ops listed=[]∧Q' .normal a w
 |f+1,listed,a,w=>(Region.ready .any ops listed=[]→Q' .normal a w) ∧
  ∀i∈Region.ready .any ops listed,wpOp P ops Q' i (fun a' w'=>(Yet m listed→i<m→S w')∧fB P ops Q' S m f (listed.setIfInBounds i true) a' w') a w
theorem lZ:∀(f:Nat) (listed:Array Bool) (a:Act) (w:World),fB P ops Q' S m f listed a w→wpAny P .any ops Q' f listed a w
 |0,_,_,_,h=>h
 |f+1,listed,a,w,h=>⟨h.1,fun i hi=>wpOp_mono (fun a' w' h'=>lZ f _ a' w' h'.2) (h.2 i hi)⟩
def Closed(ops:Array Oper)(listed:Array Bool):Prop:=∀j oj,ops[j]?=some oj→listed.getD j false=true→∀e∈oj.after,Region.binds .any e=true→listed.getD e.on false=true
def mg(ops:Array Oper):Nat→Nat→Nat→Bool
 |0,_,_=>false
 |f+1,j,i=>match ops[j]? with
  |some oj=>oj.after.any fun e=>Region.binds .any e&&(e.on==i||mg ops f e.on i)
  |none=>false
theorem iH{listed:Array Bool}{i:Nat}(h:i<listed.size):(listed.setIfInBounds i true).getD i false=true:=by simp[h]
theorem Closed.set{listed:Array Bool}{i:Nat}(h:Closed ops listed)(hi:i∈Region.ready .any ops listed):Closed ops (listed.setIfInBounds i true):=by
 obtain⟨_,oi,hoi,hall⟩:=mem_ready.1 hi;intro j oj hj hl e he hb;by_cases hij:i=j
 ·subst hij;have:oj=oi:=Option.some.inj (hj.symm.trans hoi);subst this;exact getD_set_true (hall e he hb)
 ·rw[getD_set_ne false hij]at hl;exact getD_set_true (h j oj hj hl e he hb)
theorem wV{listed:Array Bool}(h:Closed ops listed){i:Nat}:∀(f j:Nat),mg ops f j i=true→(∀oj,ops[j]?=some oj→∀e∈oj.after,Region.binds .any e=true→listed.getD e.on false=true)→listed.getD i false=true
 |0,_,hr,_=>by simp[mg]at hr
 | f + 1, j, hr, hall => by
  simp only[mg]at hr;split at hr
  ·rename_i oj hoj;obtain⟨e,he,hb⟩:=Array.any_eq_true'.1 hr;simp only[Bool.and_eq_true,Bool.or_eq_true,beq_iff_eq]at hb;obtain⟨hb,h2⟩:=hb;have h1:=hall oj hoj e he hb;rcases h2 with h2|h2
   ·rw[←h2];exact h1
   ·exact wV h f e.on h2 fun ok hok e' he' hb'=>h e.on ok hok h1 e' he' hb'
  ·cases hr
theorem mV{listed:Array Bool}{i:Nat}(h0:listed.getD i true=false)(h1:listed.getD i false=true):False:=by
 rcases Nat.lt_or_ge i listed.size with h'|h'
 ·simp[h']at h0 h1;rw[h0]at h1;cases h1
 ·simp[Array.getElem?_eq_none h']at h1
theorem fF{i:Nat}{oi:Oper}{v:Value}{Si:World→Prop}(hi:ops[i]?=some oi)(him:i<m)(hms:m≤ops.size)(hsel:∀(j:Nat) (o:Oper) cs b,ops[j]?=some o→o.op ≠ .select cs b)
  (hQ:∀c a w,¬Q' (.panic c) a w) (hSi:∀w,S w→Si w) (hlate:(∀w,Si w)∨∀j,m≤j→j<ops.size→mg ops 8 j i=true) :
  ∀(fuel:Nat) (listed:Array Bool) (a:Act) (w:World),listed.size=ops.size→Closed ops listed →
   (∀j oj,ops[j]?=some oj→j≠i→listed.getD j true=false→(∀e∈oj.after,Region.binds .any e=true→e.on≠i)→oi.apart ops oj=true) →
   i∈Region.ready .any ops listed→YieldsIf P ops Si oi v a→Si w→(Yet m listed→S w) →
   fB P ops Q' S m fuel (listed.setIfInBounds i true) (a.put oi.dst v) w→fB P ops Q' S m (fuel+1) listed a w:=by
 intro fuel
 induction fuel with
 | zero =>
  intro listed a w hsz hcl _ hr hy hS hS0 H;refine⟨fun h=>(by rw[h]at hr;cases hr),fun j hj=>?_⟩;by_cases hji:j=i
  ·subst hji;exact hy.wpOp hi hS ⟨fun h _=>hS0 h,H⟩
  ·have:=ready_mono hj hji;rw[H.1]at this;cases this
 | succ fuel ih =>
  intro listed a w hsz hcl hfree hr hy hS hS0 H;refine⟨fun h=>(by rw[h]at hr;cases hr),fun j hj=>?_⟩;by_cases hji:j=i
  ·subst hji;exact hy.wpOp hi hS ⟨fun h _=>hS0 h,H⟩
  ·have h1:=H.2 j (ready_mono hj hji);obtain⟨hjun,oj,hoj,hall⟩:=mem_ready.1 hj;have hjs:j<ops.size:=(Array.getElem?_eq_some_iff.1 hoj).1;have hnot:∀e∈oj.after,Region.binds .any e=true→e.on≠i:=fun e he hb heq =>
    mV (mem_ready.1 hr).1 (by rw[←heq];exact hall e he hb)
   have h2:=wpOp_putIf hoj (hfree j oj hoj hji hjun hnot) (fun cs b=>hsel i oi cs b hi) (fun cs b=>hsel j oj cs b hoj) (fun c a w hq=>absurd hq (hQ c _ w)) hy h1;have hfree':∀k ok,ops[k]?=some ok→k≠i→(listed.setIfInBounds j true).getD k true=false →
     (∀e∈ok.after,Region.binds .any e=true→e.on≠i)→oi.apart ops ok=true:=fun k ok hk hki hun hno=>by
    refine hfree k ok hk hki ?_ hno;by_cases hjk:j=k
    ·subst hjk;exact hjun
    ·rw[getD_set_ne true hjk]at hun;exact hun
   refine wpOp_mono (fun a' w' h3=>?_) h2;have got:Yet m listed→j<m→S w':=fun hy' hjm=>h3.2.1 (hy'.set him) hjm
   have hSi':Si w':=by
    rcases hlate with hl|hl
    ·exact hl w'
    ·have late:∀q,m≤q→q<ops.size→(∀ok,ops[q]?=some ok→∀e∈ok.after,Region.binds .any e=true→listed.getD e.on false=true)→False:=fun q hq hqs h =>
      mV (mem_ready.1 hr).1 (wV hcl 8 q (hl q hq hqs) h)
     have yet:Yet m listed:=fun q hq=>by
      cases hc:listed.getD q false with
      |false=>rfl
      |true =>
       rcases Nat.lt_or_ge q ops.size with hqs|hqs
       ·exact (late q hq hqs fun ok hok e he hb=>hcl q ok hok hc e he hb).elim
       ·simp[Nat.not_lt.2 (by omega:listed.size≤q)]at hc
     rcases Nat.lt_or_ge j m with hjm|hjm
     ·exact hSi w' (got yet hjm)
     ·exact (late j hjm hjs fun ok hok e he hb=>by
       have:ok=oj:=Option.some.inj (hok.symm.trans hoj)
       subst this;exact hall e he hb).elim
   have hS0':Yet m (listed.setIfInBounds j true)→S w':=fun hyt=>by
    rcases Nat.lt_or_ge j m with hjm|hjm
    ·exact got (hyt.lM hjm) hjm
    ·have:=hyt j hjm;rw[iH (by omega)]at this;cases this
   refine⟨fun hy' hjm=>got hy' hjm,ih (listed.setIfInBounds j true) a' w' (by simp[hsz]) (hcl.set hj) hfree' (ready_mono hr (Ne.symm hji)) h3.1 hSi' hS0' ?_⟩;rw[Array.setIfInBounds_comm _ _ hji];exact h3.2.2
theorem rz:∀(l:List Oper) (k:Nat) (listed:Array Bool) (a:Act) (w:World),m≤k→(∀j,l[j]?=ops[k+j]?)→Region.seqB .any ops l.length k listed=true→wpList P ops Q' l a w→fB P ops Q' S m l.length listed a w
 |[],_,_,_,_,_,_,hB,h=>⟨by simpa[Region.seqB]using hB,h⟩
 | o :: l, k, listed, a, w, hk, hl, hB, h => by
  have h0:ops[k]?=some o:=by simpa using (hl 0).symm
  simp only[List.length_cons,Region.seqB,Bool.and_eq_true,decide_eq_true_eq]at hB;have rc:∀a' w',wpList P ops Q' l a' w'→fB P ops Q' S m l.length (listed.setIfInBounds k true) a' w':=fun a' w' h' =>
   rz l (k+1) _ a' w' (by omega) (fun j=>by have:=hl (j+1);simpa[Nat.add_assoc,Nat.add_comm 1 j]using this) hB.2 h'
  refine⟨fun h1=>(by rw[hB.1]at h1;cases h1),fun i hi=>?_⟩;have:i=k:=by rw[hB.1]at hi;simpa using hi
  subst this;unfold wpOp;simp only[h0];unfold wpList at h;split
  ·rename_i hw;rw[if_pos hw]at h;rcases h with h|h
   ·exact .inl (Oper.wp_mono (fun a' w' h'=>⟨fun _ him=>absurd him (by omega),rc a' w' h'⟩) h)
   ·exact .inr h
  ·rename_i hw;rw[if_neg hw]at h;exact⟨fun _ him=>absurd him (by omega),rc _ _ h⟩
def Ep:Op→Bool | .move _=>true|_=>false
def vv(ops:Array Oper)(m i:Nat):Bool:=(match ops[i]? with|some o=>Ep o.op|none=>false)||(List.range ops.size).all fun j=>decide (j<m)||mg ops 8 j i
def xX(ops:Array Oper)(n:Nat):Bool:=Region.noSelect ops&&decide (n<ops.size)&&((List.range n).all fun i=>vv ops (n+1) i)&&Region.lexHead .any ops (ops.size-n) n 0 (Array.replicate ops.size false)
end
section
variable {Γ:Ctx}{G:aO}{H:List aN}{w:World}{nt n0:Nat}{k:List It}{Q:Post}{env:Env}
theorem eZ.build{o:Oper}{T:Nat}{parts:Array (Nat×Operand)}{v:AV}(hop:o.op = .build T parts)(hb:rX Γ env T parts=some v):eZ Γ nt env H o v:=by
 intro G a w hW hF;exact uO hW hF hop hb
def StepB(Γ:Ctx)(nt:Nat)(env:Env)(H:List aN)(o:Oper)(env':Env)(H':List aN):Prop :=
 o.guard=none∧∀(G:aO) (a:Act) (w:World),bM Γ.gl G H w→df G nt a.tmps env→∃u w' G',(execOp a.eval o).run Γ.P w = .ok (.value u) w'∧GLe H.length G G'∧bM Γ.gl G' H' w'∧df G' nt (a.put o.dst u).tmps env'∧KB G [] w w'
theorem StepB.buildSlice{o:Oper}{t T e n:Nat}{parts:Array (Nat×Operand)}{ti te:TI}{es:List D}(hop:o.op = .buildSlice T n parts)(hg:o.guard=none)(hd:o.dst=some t)(ht:Nat.ble (t+1) nt=true)
  (hT:aY Γ.T T=some ti) (hsh:ti.sh = .slice e) (he:aY Γ.T e=some te) (hes:rL Γ env te.size 0 parts.toList=some es) (hn:Nat.beq es.length n=true) (hsz:Nat.ble (n*te.size) 16777216=true) (hpos:Nat.ble 1 (n*te.size)=true)
  : StepB Γ nt env H o ((t, .d (.sl te.size es))::env) H:=by
  refine⟨hg,fun G a w hW hF=>?_⟩;obtain⟨f⟩:=Γ.ty hT;obtain⟨fe⟩:=Γ.ty he;have hnn:=Nat.eq_of_beq_eq_true hn;subst hnn;have hsz':=Nat.le_of_ble_eq_true hsz;have hpos':=Nat.le_of_ble_eq_true hpos;obtain⟨vs,v1,v2,v3,v4,v5⟩:=uA hW hF hes;have hz:fe.z.cells.size=te.size:=by
   have:=(iq (imm:=G.imm) fe.zok).1;rw[fe.zlen]at this;simpa using this
  obtain⟨r,r1,r2,r3⟩:=xA te.size vs 0 ((Array.range (es.length*te.size)).map (fe.z.cells[·%fe.z.cells.size]!)) v3 (by simp[v2]);obtain⟨g1,g2⟩:=hW.JF r e;have hrl:r.toList.length=es.length*te.size:=by simp[r2]
  have hne:es≠[]:=fun e=>by subst e;simp at hpos'
  have hvr:DRel (G.know w.heap.size r.toList).imm (.slice (some ⟨w.heap.size,0,none⟩) es.length es.length) (.sl te.size es):=by
   refine .sl _ 0 _ te.size es hne (Nat.le_refl _) (fun e he=>(v4 e he).1) (fun e he=>(v4 e he).2) (by simp[aO.know,r2]) fun i e j c hei hc=>?_
   have hi:=aI hei;have hj:j<te.size:=by have:=aI hc;rw[(v4 e (List.mem_of_getElem? hei)).1]at this;exact this
   have hk:=oO hi hj;have hget:=r3 (i*te.size+j);rw[if_pos ⟨by rw[Nat.zero_mul];exact Nat.zero_le _,by rw[Nat.zero_add,v2];exact hk⟩]at hget;have hdiv:(i*te.size+j)/te.size=i:=Nat.div_eq_of_lt_le (by omega) (by rw[Nat.add_mul];omega);have hmod:(i*te.size+j)%te.size=j:=by
    have:=Nat.div_add_mod (i*te.size+j) te.size;rw[hdiv,Nat.mul_comm]at this;omega
   rw[hdiv,hmod,Nat.sub_zero]at hget;have hvi:vs[i]?=some (gv vs i):=jm (by omega);rw[hvi,Option.bind_some]at hget;have hvj:(gv vs i).cells[j]?=some (gv (gv vs i).cells.toList j):=by
    have:(gv vs i).cells.size=te.size:=v3 _ (List.mem_of_getElem? hvi);have hlt:j<(gv vs i).cells.toList.length:=by rw[Array.length_toList,this];exact hj
    have:=jm hlt
    rwa [Array.getElem?_toList]at this
   rw[hvj]at hget;have:gv ((G.know w.heap.size r.toList).imm w.heap.size) (0+i*te.size+j)=gv (gv vs i).cells.toList j:=by
    simp only[aO.know,if_true,Nat.zero_add];simp[gv,List.getD]at hget ⊢;rw[hget];rfl
   rw[this];exact (v5 i e hei j c hc).mono g1.imm
  have hr:(execOp a.eval o).run Γ.P w = .ok (.value (.slice (some ⟨w.heap.size,0,none⟩) es.length es.length)) (w.alloc (.cells r e)):=by
   unfold execOp;have hpl:(parts.map fun (p:Nat×Operand)=>(p.1,a.eval p.2)).toList=(vs.zipIdx 0).map (fun x=>(x.2,x.1)):=by rw[Array.toList_map];exact v1
   have h24:¬es.length*te.size>2^24:=by omega
   have h00:¬es.length*te.size=0:=by omega
   have hfill:Instr.fill (fun i=>some (i*te.size,te.size)) ((Array.range (es.length*te.size)).map (fe.z.cells[·%fe.z.cells.size]!)) (parts.map fun (p:Nat×Operand)=>(p.1,a.eval p.2)).toList=some r:=by rw[hpl];exact r1
   simp only[hop,Instr.buildSlice,Sem.run_bind,run_underlying (cQ f hsh),Result.andThen_ok,fe.sizeOf,if_neg h24,Sem.run_pure,if_neg h00,zeroValue,typeInfo,run_program,fe.info,fe.hz];simp only[hfill];simp[newRow]
  exact⟨_,_,_,hr,g1,g2,by rw[hd];exact (hF.up g1 hW.lim).put ht (.d _ _ hvr),fun b hb _=>Below.heap_alloc _ _ _ hb⟩
theorem AK{all:Array Oper}{Q':Exit→Act→World→Prop}{g n:Nat}(hn:n+1≤all.size)(hsel:Region.noSelect all=true)(hQ:∀c a w,¬Q' (.panic c) a w){w:World}(hW:bM Γ.gl G H w){env':Env}{ds:List Deferred}
  (hlate:∀i,i<n→vv all (n+1) i=true)
  (hK:∀listed a,Region.seqB .any all g n listed=true→listed.size=all.size→df G nt a.tmps env'→a.defers=ds→fB Γ.P all Q' (fun w'=>KB G [] w w') (n+1) g listed a w) :
  ∀(l:List Oper) (k:Nat) (listed:Array Bool) (a:Act) (env:Env),dJ Γ nt H [] env l env'→(∀j,j<l.length→l[j]?=all[k+j]?)→k+l.length=n→listed.size=all.size→Closed all listed →
   Region.lexHead .any all g l.length k listed=true→df G nt a.tmps env→a.defers=ds→fB Γ.P all Q' (fun w'=>KB G [] w w') (n+1) (l.length+g) listed a w
 |[],k,listed,a,env,hh,_,hk,hsz,hcl,hB,hF,hd=>by
  have:k=n:=by simpa using hk
  subst this;cases hh;rw[List.length_nil,Nat.zero_add];exact hK listed a (by simpa[Region.lexHead]using hB) hsz hF hd
 | o :: l, k, listed, a, env, hh, hl, hk, hsz, hcl, hB, hF, hd => by
  have h0:all[k]?=some o:=by simpa using (hl 0 (by simp)).symm
  simp only[List.length_cons,Region.lexHead,Bool.and_eq_true]at hB;obtain⟨⟨hr,hf⟩,hB'⟩:=hB;have hr':k∈Region.ready .any all listed:=by simpa using hr
  have hkn:k<n:=by simp only[List.length_cons]at hk;omega
  cases hh with
  | cons nn hg hdst ht hfree hq hc hh =>
   obtain⟨u,hu,hrun⟩:=sM (ws:=[]) rfl hfree hW hF hq hc;have rc:=AK hn hsel hQ hW hlate hK l (k+1) (listed.setIfInBounds k true) (a.put o.dst u) _ hh (fun j hj=>by have:=hl (j+1) (by simp;omega);simpa[Nat.add_assoc,Nat.add_comm 1 j]using this) (by simp only[List.length_cons]at hk;omega)
    (by simp[hsz]) (hcl.set hr') hB' (by rw[hdst];exact hF.put ht hu) (bZ a _ u hd)
   rw[show (o::l).length+g=(l.length+g)+1 by simp;omega];have hla:=hlate k hkn;simp only[vv,h0,Bool.or_eq_true]at hla;rcases hla with hm|hla
   ·have hval:∃x,o.op = .move x:=by
     cases ho:o.op<;>rw[ho]at hm<;>simp[Ep]at hm;exact⟨_,rfl⟩
    obtain⟨x,hx⟩:=hval;have hmv:∀w',(execOp a.eval o).run Γ.P w' = .ok (.value (a.eval x)) w':=fun w'=>by unfold execOp;simp[hx]
    have heq:u=a.eval x:=by
     have:=hrun w (fun b _ _=>rfl);rw[hmv]at this;simpa using this.symm
    exact fF (Si:=fun _=>True) h0 (by omega) hn (Region.noSelect_spec hsel) hQ (fun _ _=>trivial) (.inl fun _=>trivial) _ listed a w hsz hcl (Region.free_spec h0 hf) hr'
     (.inl ⟨ba hg,fun w' _=>by rw[heq];exact hmv w'⟩) trivial (fun _ b _ _=>rfl) rc
   ·refine fF (Si:=fun w'=>KB G [] w w') h0 (by omega) hn (Region.noSelect_spec hsel) hQ (fun _ h=>h) (.inr fun j hj hjs=>?_) _ listed a w hsz hcl (Region.free_spec h0 hf) hr'
     (.inl ⟨ba hg,fun w' hb=>hrun w' hb⟩) (fun b _ _=>rfl) (fun _ b _ _=>rfl) rc
    have:=List.all_eq_true.1 hla j (by simpa using hjs);simp only[Bool.or_eq_true,decide_eq_true_eq]at this;rcases this with h|h
    ·omega
    ·exact h
  | consX hg hdst ht hx hh =>
   obtain⟨u,hu,hrun⟩:=hx G a w hW hF;have rc:=AK hn hsel hQ hW hlate hK l (k+1) (listed.setIfInBounds k true) (a.put o.dst u) _ hh (fun j hj=>by have:=hl (j+1) (by simp;omega);simpa[Nat.add_assoc,Nat.add_comm 1 j]using this) (by simp only[List.length_cons]at hk;omega)
    (by simp[hsz]) (hcl.set hr') hB' (by rw[hdst];exact hF.put ht hu) (bZ a _ u hd)
   rw[show (o::l).length+g=(l.length+g)+1 by simp;omega];exact fF (Si:=fun _=>True) h0 (by omega) hn (Region.noSelect_spec hsel) hQ (fun _ _=>trivial) (.inl fun _=>trivial) _ listed a w hsz hcl (Region.free_spec h0 hf) hr'
    (.inl ⟨ba hg,fun w' _=>hrun w'⟩) trivial (fun _ b _ _=>rfl) rc
theorem aa.Gi{id:Nat}{all:Array Oper}(l:List Oper){l1 l3:List Oper}{ob:Oper}{env1 env2:Env}{H':List aN}(hnp:fN Q)(hl:all=l.toArray)(hs:jS l=some (l1,ob::l3))(hB:xX l.toArray l1.length=true)
  (hh:dJ Γ nt H [] env l1 env1) (hb:StepB Γ nt env1 H ob env2 H') (hlen:H.length≤H'.length) (h:aa Γ nt n0 (.ops all l3::k) Q env2 H'):aa Γ nt n0 (.code (.region id all true)::k) Q env H :=
 fun G0 G a w h0 hln hF hd hW=>by
  subst hl;have hW':bM Γ.gl G H { w with drawn:=w.drawn+1 }:=hW.same rfl rfl rfl rfl;have e:=lS hs;simp only[xX,Bool.and_eq_true,decide_eq_true_eq]at hB;obtain⟨⟨⟨hsel,hn⟩,hlt⟩,hlex⟩:=hB;have hsz:l.toArray.size=l1.length+(l3.length+1):=by rw[e];simp
  have hpan:∀c a w,¬aZ Γ.P (Conc Γ nt n0 G0 Q) k (.panic c) a w:=fun c a w hq=>by
   rw[dO]at hq;obtain⟨_,env,H,_,_,_,_,_,hq⟩:=hq;exact hnp c env H hq
  simp only[aZ];refine wp_region_any Γ.mixed (lZ (S:=fun w'=>KB G [] { w with drawn:=w.drawn+1 } w') (m:=l1.length+1) _ _ _ _ ?_);have tail:∀listed a',Region.seqB .any l.toArray (l3.length+1) l1.length listed=true→listed.size=l.toArray.size→df G nt a'.tmps env1→a'.defers=[] →
    fB Γ.P l.toArray (aZ Γ.P (Conc Γ nt n0 G0 Q) k) (fun w'=>KB G [] { w with drawn:=w.drawn+1 } w') (l1.length+1) (l3.length+1) listed a' { w with drawn:=w.drawn+1 }:=fun listed a' hB _ hF' hd'=>by
   have h0b:l.toArray[l1.length]?=some ob:=by rw[e];simp
   simp only[Region.seqB,Bool.and_eq_true,decide_eq_true_eq]at hB;refine⟨fun h1=>(by rw[hB.1]at h1;cases h1),fun i hi=>?_⟩;have:i=l1.length:=by rw[hB.1]at hi;simpa using hi
   subst this;obtain⟨hg,hst⟩:=hb;obtain⟨u,w',G',hr,g1,g2,g3,g4⟩:=hst G a' _ hW' hF';have hn':=h G0 G' (a'.put ob.dst u) w' (h0.trans (g1.weaken hln)) (by omega) g3 (bZ a' _ u hd') g2;simp only[aZ]at hn';unfold wpOp;simp only[h0b];rw[if_pos (ba hg)];refine .inl ?_;unfold Oper.wp;rw[hr];exact⟨fun _ _=>g4,rz l3 (l1.length+1) _ _ w' (Nat.le_refl _) (fun j=>by rw[e];simp[List.getElem?_append_right,Nat.add_assoc,Nat.add_comm 1 j]) hB.2 hn'⟩
  have:=AK (Γ:=Γ) (g:=l3.length+1) (n:=l1.length) (by omega) hsel hpan hW' (fun i hi=>List.all_eq_true.1 hlt i (by simpa using hi)) tail l1 0 (Array.replicate l.toArray.size false) a env hh (fun j hj=>by rw[e];simp[List.getElem?_append_left hj]) (by simp) (by simp)
   (fun j oj _ hl2=>by rw[getD_replicate_false]at hl2;cases hl2) (by rw[hsz,Nat.add_sub_cancel_left]at hlex;rw[hsz];exact hlex) hF hd
  rw[hsz];rw[hsz]at this;exact this
end
end
section
open Go Go.RowKit
section
variable {Γ:Ctx}{G:aO}{H:List aN}{w:World}{nt n0:Nat}{k:List It}{Q:Post}{env:Env}
theorem aa.QQ{all:Array Oper}{o:Oper}{l:List Oper}{t f:Nat}{args0 args cargs:List AV}{X:AV}{Hc Y:List aN}(ρ:List Nat)(hR:ACalls Γ f cargs Hc (fun r H=>r=X∧H=Y))(hg:o.guard=none)(hd:o.dst=some t)(ht:Nat.ble (t+1) nt=true)
  (hcall:eU Γ env o.op=some (f,args0)) (hw:args0.map fgt=args) (hargs:args=AV.jy ρ cargs) (hab:AV.dF ρ.length cargs=true) (hn:ρ.Nodup) (hp:mi ρ H=some (Hc.map (aN.ren ρ))) (hb:dZ ρ.length Hc=true)
  (h:aa Γ nt n0 (.ops all l::k) Q ((t,AV.ren (names ρ H.length Y.length) X)::env) (iw ρ (Y.map (aN.ren (names ρ H.length Y.length))) H)):aa Γ nt n0 (.ops all (o::l)::k) Q env H:=by
 refine aa.OZ ρ hR hg hd ht hcall hw hargs hab hn hp hb ?_;rintro r Hc' ⟨rfl,rfl⟩ _;exact⟨_,_,rfl,rfl,h⟩
theorem ACalls.weak{f:FuncId}{args args':List AV}{R:AV→List aN→Prop}(h:ACalls Γ f args' H R)(hw:zH args args'):ACalls Γ f args H R :=
 ⟨h.1,fun G w vs hW hA=>h.2 G w vs hW (by
  obtain⟨h1,h2⟩:=hw.get;refine⟨hA.1.trans h1,fun i c hc=>?_⟩;obtain⟨c',hc',hww⟩:=h2 i c hc
  exact hww _ _ (hA.2 i c' hc'))⟩
end
end
section
open Go Go.RowKit
def aO.rY(G:aO)(j k:Nat)(v':Value):aO:={ G with fl:=fun i q=>if i=j∧q=k then some v' else G.fl i q }
theorem bM.qW{gl:List (Nat×List D)}{G:aO}{H:List aN}{w w':World}(hW:bM gl G H w){e sz n:Nat}{v v':Value}{es':List D}{ys:List Value}(j:Nat)
  (hold:(∃es,H[j]?=some (.arr e sz es)∧es.length=n∧G.fl j n=some v)∨(j=H.length∧v.ownBlock=none∧n=0))
  (hn:n≤es'.length) (hsame:j<H.length→es'.length=n→v'=v)
  (hos:w'.os=w.os) (htape:w'.tape=w.tape) (hout:w'.output=w.output) (hsize:w.heap.size≤w'.heap.size)
  (hblk:∀b,v'.ownBlock=some b→v.ownBlock=some b∨w.heap.size≤b)
  (hheap:∀b,b<w.heap.size→v.ownBlock≠some b→w'.heap[b]?=w.heap[b]?)
  (hown:w'.ownsRow 0 e sz v' es'.length ys) (hrr:d9 G.imm sz es' ys)
  (H':List aN) (hlen:H.length≤H'.length) (hH1:H'[j]?=some (.arr e sz es')) (hH2:∀id,id≠j→H'[id]?=H[id]?) :
  GLe H.length G (G.rY j es'.length v')∧bM gl (G.rY j es'.length v') H' w':=by
 have hlast:∀k,n<k→G.fl j k=none:=fun k hk=>by
  rcases hold with⟨es,h1,h2,h3⟩|⟨h1,_,_⟩
  ·obtain⟨u,xs,_,_,_,_,_,_,o6⟩:=hW.obj j _ h1;exact o6 k (by omega)
  ·exact (hW.lim j (by omega)).2 k
 have hle:GLe H.length G (G.rY j es'.length v'):=⟨rfl,rfl,rfl, .refl _,fun _ _ _ h=>h,fun id k u hid hu=>by
  simp only[aO.rY];split
  ·rename_i hq;obtain⟨rfl,rfl⟩:=hq;rcases Nat.lt_or_ge n es'.length with hlt|hge
   ·rw[hlast _ hlt]at hu;cases hu
   ·have e1:es'.length=n:=by omega
    rw[hsame hid e1];rcases hold with⟨es,_,_,h2⟩|⟨h1,_⟩
    ·rw[e1,h2]at hu;exact hu
    ·omega
  ·exact hu⟩
 have hOBold:∀b,v.ownBlock=some b→∃oj,H[j]?=some oj∧OB G j oj b:=fun b hb=>by
  rcases hold with⟨es,h1,h2,h3⟩|⟨_,h2,_⟩
  ·exact⟨_,h1,v,by rw[h2];exact h3,hb⟩
  ·rw[h2]at hb;cases hb
 have himmO:∀b,v.ownBlock=some b→G.imm b=[]:=fun b hb=>by
  rcases hold with⟨es,h1,h2,h3⟩|⟨_,h2,_⟩
  ·obtain⟨u,xs,o1,_,_,_,_,o5,_⟩:=hW.obj j _ h1;rw[h2,h3]at o1;cases o1;exact o5 b hb
  ·rw[h2]at hb;cases hb
 have himmN:∀b,v'.ownBlock=some b→G.imm b=[]:=fun b hb=>by
  rcases hblk b hb with h|h
  ·exact himmO b h
  ·exact jE hW h
 refine⟨hle,hW.step hle hos htape hout hsize j (.arr e sz es') H' hlen hH1 hH2 ?_ ?_ ?_ ?_ ?_ ?_⟩
 ·intro id _ hne k;simp only[aO.rY];rw[if_neg (fun h=>hne h.1)]
 ·intro b hb hnb;have hv:v.ownBlock≠some b:=fun hv=>by
   obtain⟨oj,o1,o2⟩:=hOBold b hv;exact hnb oj o1 o2
  exact⟨hheap b hb hv,rfl⟩
 ·intro b hb i hi;have e0:G.imm b=[]:=by
   rcases hb with hb|⟨oj,o1,o2⟩
   ·exact jE hW hb
   ·rcases hold with⟨es,h1,h2,h3⟩|⟨h1,_⟩
    ·rw[h1]at o1;cases o1;obtain⟨u,u1,u2⟩:=o2;rw[h2,h3]at u1;cases u1;exact himmO b u2
    ·rw[List.getElem?_eq_none (by omega)]at o1;cases o1
  exfalso;have e1:(G.rY j es'.length v').imm b=[]:=e0;rw[e1]at hi;simp at hi
 ·exact⟨v',ys,by simp[aO.rY],hown,hrr.hsz,hrr.one,hrr.rel,himmN,fun k hk=>by
   simp only[aO.rY];rw[if_neg (by omega)];exact hlast k (by omega)⟩
 ·rintro b ⟨u,u1,u2⟩;simp only[aO.rY,and_self,if_true,Option.some.injEq]at u1;subst u1;rcases hblk b u2 with h1|h1
  ·exact .inr (hOBold b h1)
  ·exact .inl h1
 ·intro id hid;have hj:j<H'.length:=aI hH1;obtain⟨l1,l2⟩:=hW.lim id (by omega);refine⟨l1,fun q=>?_⟩;simp only[aO.rY];rw[if_neg (by omega)];exact l2 q
section
variable {Γ:Ctx}{nt n0:Nat}{k:List It}{Q:Post}{env:Env}{H:List aN}{G:aO}{w:World}
theorem Bm(hW:bM Γ.gl G H w){id e sz:Nat}{es:List D}(hh:hget H id=some (.arr e sz es)):
  ∃v xs,G.fl id es.length=some v∧w.ownsRow 0 e sz v es.length xs∧d9 G.imm sz es xs∧(∀b,v.ownBlock=some b→G.imm b=[]):=by
 rw[dA]at hh;obtain⟨v,xs,o1,o2,o3,o3',o4,o5,_⟩:=hW.obj id _ hh;exact⟨v,xs,o1,o2,⟨o2.1,o3,o3',o4⟩,o5⟩
theorem Eg(hW:bM Γ.gl G H w){id e sz n:Nat}{es:List D}(hh:hget H id=some (.arr e sz es))(hn:es.length=n){u:Value}(hu:bA G u (.ms id n)):
  ∃xs,G.fl id n=some u∧w.ownsRow 0 e sz u n xs∧d9 G.imm sz es xs:=by
 obtain⟨v,xs,o1,o2,o3,_⟩:=Bm hW hh;rw[hn]at o1 o2;cases hu with
 |ms _ _ _ h h1 =>
  rw[o1]at h;cases h;exact⟨xs,o1,o2,o3⟩
theorem q9{e sz n:Nat}{v:Value}{xs:List Value}(h:w.ownsRow 0 e sz v n xs):∃a cap,v = .slice a n cap:=by
 rcases h.2 with⟨h1,h2⟩|⟨g,cap,cur,h1,_⟩
 ·subst h2;exact⟨_,_,h1⟩
 ·exact⟨_,_,h1⟩
theorem Cj{e sz n:Nat}{v:Value}{xs:List Value}(h:w.ownsRow 0 e sz v n xs)(hn:0<n):∃b cap,v = .slice (some ⟨b,0,none⟩) n cap:=by
 rcases h.2 with⟨h1,h2⟩|⟨g,cap,cur,h1,_⟩
 ·omega
 ·exact⟨_,_,h1⟩
theorem mh{o:Oper}{T id n e e' sz:Nat}{ti te:TI}{es:List D}{x y:Operand}{ky:IntKind}{i:Int}(hop:o.op = .indexAddr T x y)(hT:aY Γ.T T=some ti)(hsh:ti.sh = .slice e)(hE:aY Γ.T e=some te)
  (hx:ev Γ env x = .ms id n) (hy:ev Γ env y = .d (.int ky i)) (hh:hget H id=some (.arr e' sz es)) (hs:Nat.beq sz te.size=true) (hn:es.length=n) (hi:0≤i∧i<(n:Int)):eu Γ nt env H o (.eptr id n sz i.toNat 0):=by
 intro G a w hW hF;obtain⟨f⟩:=Γ.ty hT;obtain⟨fe⟩:=Γ.ty hE;have hsz:=Nat.eq_of_beq_eq_true hs;have hu:=cQ f hsh;have hxv:=bN hW hF x;rw[hx]at hxv;have hyv:=bN hW hF y;rw[hy]at hyv;obtain⟨xs,h1,h2,_⟩:=Eg hW hh hn hxv;obtain⟨b,cap,hv⟩:=Cj h2 (by omega);rw[hv]at h1;refine⟨_, .eptr b cap id n sz i.toNat 0 h1,fun w' hb=>?_⟩;have hr:=run_indexAt_slice (Γ:=Γ) fe hu (b:=b) (o:=0) (n:=n) (cap:=cap) (k:=ky) hi.1 hi.2 w';unfold execOp;simp only[hop,hv,hyv.cT,Sem.run_bind,hr,Result.andThen_ok,Sem.run_pure,Nat.zero_add,Nat.add_zero,hsz]
theorem mQ{o:Oper}{T id n e sz i off:Nat}{ti:TI}{es:List D}{x:Operand}{d v:D}(hop:o.op = .load T x)(hT:aY Γ.T T=some ti)(hx:ev Γ env x = .eptr id n sz i off)(hh:hget H id=some (.arr e sz es))
  (hn:es.length=n) (hd:es[i]?=some d) (hv:kC ti d.cells off=some v):eu Γ nt env H o (.d v):=by
 intro G a w hW hF;obtain⟨f⟩:=Γ.ty hT;have hxv:=bN hW hF x;rw[hx]at hxv;obtain⟨u,xs,h1,h2,h3,_⟩:=Bm hW hh;have hlt:=aI hd;have hmem:=jG hd;generalize hxe:a.eval x=xv at hxv;cases hxv with
 | eptr b cap _ _ _ _ _ hfl =>
  rw[hn]at h1 h2 hlt;rw[h1]at hfl;cases hfl
  obtain⟨r,r1,r2⟩:=tE (G:=G) (b:=b) (o:=i*sz) (us:=xs.drop (i*sz)) f (h3.one d hmem) (fun j c hc=>by
   have:=h3.rel i d j c hd hc
   simpa[gv,List.getD]using this) hv
  refine⟨r,r1,fun w' hb=>?_⟩
  have hr:=r2 w' (fun j hj=>xU hb (by
   rw[h3.hsz d hmem]at hj;have hx1:i*sz+j<n*sz:=oO hlt hj;rw[h2.cellAt (i*sz+j) hx1];have hx2:i*sz+j<xs.length:=by rw[h2.1];exact hx1
   simp[gv,List.getD,hx2]))
  unfold execOp;simp only[hop,hxe,Sem.run_bind,hr,Result.andThen_ok,Sem.run_pure]
def vG(d:D)(off:Nat)(vs:List D):D:=match d with
 | .agg cs => .agg (cs.take off++vs++cs.drop (off+vs.length))
 |_=>vs.headD .top
theorem DV{d:D}{off:Nat}{vs:List D}(h1:∀c∈vs,c.one=true)(hf:off+vs.length≤d.cells.length)(hp:0<vs.length):(vG d off vs).cells=d.cells.take off++vs++d.cells.drop (off+vs.length):=by
 have key:∀d:D,d.cells=[d]→vG d off vs=vs.headD .top→off+vs.length≤d.cells.length→(vG d off vs).cells=d.cells.take off++vs++d.cells.drop (off+vs.length):=fun d hc hs hf=>by
  rw[hc]at hf ⊢;simp only[List.length_singleton]at hf
  match vs,h1,hp,hf with
  |[x],h1,_,hf =>
   simp only[List.length_singleton]at hf;obtain rfl:off=0:=by omega
   rw[hs];have hx:=h1 x (by simp);cases x<;>simp_all [D.cells,D.one]
 cases d<;>first|rfl|exact key _ rfl rfl hf
theorem aa.wN{all:Array Oper}{o:Oper}{l:List Oper}{T id n e sz i off:Nat}{x y:Operand}{ti:TI}{es vs:List D}{d:D}{v:AV}(hop:o.op = .store T x y)(hg:o.guard=none)(hdst:o.dst=none)
  (hT:aY Γ.T T=some ti) (hx:ev Γ env x = .eptr id n sz i off) (hy':(ev Γ env y).frc=some (True,v)) (hvs:wG v.cells=some vs) (hh:hget H id=some (.arr e sz es)) (hs:Nat.beq vs.length ti.size=true) (hp:Nat.ble 1 ti.size=true) (ho:iK v.cells=true)
  (hn:es.length=n) (hd:es[i]?=some d) (hle:off+vs.length≤d.cells.length)
  (h:aa Γ nt n0 (.ops all l::k) Q env (H.set id (.arr e sz (es.set i (vG d off vs))))):aa Γ nt n0 (.ops all (o::l)::k) Q env H :=
 fun G0 G a w h0 hl hF hdf hW=>by
  have hy:ev Γ env y=v:=by rw[jP]at hy';exact (Prod.mk.inj (Option.some.inj hy')).2
  obtain⟨f⟩:=Γ.ty hT;have hxv:=bN hW hF x;rw[hx]at hxv;have hyv:=bN hW hF y;rw[hy]at hyv;have hsz:=Nat.eq_of_beq_eq_true hs;have hp':=Nat.le_of_ble_eq_true hp;obtain⟨c1,c2⟩:=om hyv ho;obtain⟨d1,d2⟩:=wF hvs;obtain⟨u,xs,o1,o2,o3,o4⟩:=Bm hW hh;have hlt:=aI hd;have hmem:=jG hd;have hone:∀c∈vs,c.one=true:=fun c hc=>by
   obtain⟨j,hj⟩:=List.getElem?_of_mem hc;obtain⟨c',e1,e2⟩:=d2 j c hj;exact EW e2 (jQ ho c' (List.mem_of_getElem? e1))
  have hrel:∀(j:Nat) (c:D),vs[j]?=some c→DRel G.imm (gv (a.eval y).cells.toList j) c:=fun j c hc=>by
   obtain⟨c',e1,e2⟩:=d2 j c hc;exact uo (c2 j c' e1) e2
  have hcl:(a.eval y).cells.toList.length=vs.length:=by simp[c1,d1]
  have ho':∀u∈(a.eval y).cells.toList,u.oneCell'=true:=fun u hu=>by
   obtain⟨j,hj⟩:=List.getElem?_of_mem hu;have hlt2:j<v.cells.length:=by have:=aI hj;simp at this;omega
   have:=c2 j _ (List.getElem?_eq_getElem hlt2);have h3:=this.oneCell (jQ ho _ (List.getElem_mem hlt2));simpa[gv,List.getD,hj]using h3
  generalize hxe:a.eval x=xv at hxv;cases hxv with
  | eptr b cap _ _ _ _ _ hfl =>
   rw[hn]at o1 o2;rw[o1]at hfl;cases hfl;have hdl:=o3.hsz d hmem;rcases o2.2 with⟨q1,_⟩|⟨g,cap',cur,q1,qb,q2,q3,q4,q5,q6⟩
   ·cases q1
   ·simp only[Value.slice.injEq,Option.some.injEq,Addr.mk.injEq,and_true,true_and]at q1;obtain⟨rfl,rfl⟩:=q1;have hin:i*sz+off+vs.length≤n*sz:=by
     have h1:(i+1)*sz≤n*sz:=Nat.mul_le_mul_right _ (by omega);rw[Nat.add_mul]at h1;omega
    have hcap:n*sz≤cap*sz:=Nat.mul_le_mul_right _ q3;have hstore:=run_storeCells_at Γ.P b (i*sz+off) e (a.eval y).cells.toList 0 cur w q2 (by rw[hcl];omega) ho';simp only[Nat.add_zero]at hstore;generalize hcur':(cur.toList.take (i*sz+off)++(a.eval y).cells.toList++cur.toList.drop (i*sz+off+(a.eval y).cells.toList.length)).toArray=cur' at hstore;have hge:∀p,cur'.toList[p]?=if p<i*sz+off then cur.toList[p]? else if p<i*sz+off+vs.length then (a.eval y).cells.toList[p-(i*sz+off)]? else cur.toList[p]?:=fun p=>by
     rw[←hcur',List.toList_toArray,l9 (by have e1:cur.toList.length=cur.size:=Array.length_toList;rw[e1,hcl];omega) p,hcl]
    have hsz':cur'.size=cap*sz:=by
     have:cur'.toList.length=cap*sz:=by
      rw[←hcur',List.toList_toArray];simp only[List.length_append,List.length_take,List.length_drop,hcl,Array.length_toList];omega
     simpa using this
    have hset:(es.set i (vG d off vs)).length=n:=by simpa using hn
    have hcl2:=DV hone hle (by omega);have htk:∀p,p<n*sz→gv (cur'.toList.take (n*sz)) p=if p<i*sz+off then gv xs p else if p<i*sz+off+vs.length then gv (a.eval y).cells.toList (p-(i*sz+off)) else gv xs p:=fun p hpn=>by
     have hx':xs[p]?=cur.toList[p]?:=by rw[←q6,List.getElem?_take,if_pos hpn]
     simp only[gv,List.getD,List.getElem?_take,if_pos hpn,hge p,hx'];split
     ·rfl
     ·split<;>rfl
    obtain⟨g1,g2⟩:=hW.qW (w':=w.setRow b cur') (e:=e) (sz:=sz) (n:=n) (v := .slice (some ⟨b,0,none⟩) n cap) (v' := .slice (some ⟨b,0,none⟩) n cap) (es':=es.set i (vG d off vs)) (ys:=cur'.toList.take (n*sz)) id
     (.inl ⟨es,by rw[dA]at hh;exact hh,hn,o1⟩) (by omega) (fun _ _=>rfl) rfl rfl rfl (by simp) (fun b' hb' => .inl hb') (fun b' hb' hne=>setRow_other w b b' cur' (fun e'=>hne (by rw[e'];rfl)))
     (by
      refine⟨by rw[List.length_take,Array.length_toList,hset];omega, .inr ⟨b,cap,cur',by rw[hset],qb,setRow_heap w b cur cur' e _ q2,by omega,q4,hsz',by rw[hset]⟩⟩)
     ⟨by rw [List.length_take, Array.length_toList, hset]; omega, fun x hx => by
       rcases List.mem_or_eq_of_mem_set hx with h1|h1
       ·exact o3.hsz x h1
       ·subst h1;rw[hcl2];simp only[List.length_append,List.length_take,List.length_drop];omega,
      fun x hx=>by
       rcases List.mem_or_eq_of_mem_set hx with h1|h1
       ·exact o3.one x h1
       ·subst h1;rw[hcl2];intro c hc;simp only[List.mem_append]at hc;rcases hc with (hc|hc)|hc
        ·exact o3.one d hmem c (List.mem_of_mem_take hc)
        ·exact hone c hc
        ·exact o3.one d hmem c (List.mem_of_mem_drop hc),
      fun i' x j c hx hc=>by
       have hi':i'<n:=by have:=aI hx;omega
       by_cases hii:i'=i
       ·subst hii;rw[List.getElem?_set_self (by omega)]at hx;cases hx;rw[hcl2,l9 hle]at hc;have hj:j<sz:=by
         rw[←hdl];split at hc
         ·exact aI hc
         ·split at hc
          ·omega
          ·exact aI hc
        rw[htk _ (oO hi' hj)];by_cases hj1:j<off
        ·rw[if_pos hj1]at hc;rw[if_pos (by omega)];exact o3.rel i' d j c hd hc
        ·rw[if_neg hj1]at hc;rw[if_neg (by omega)];by_cases hj2:j<off+vs.length
         ·rw[if_pos hj2]at hc;rw[if_pos (by omega),show i'*sz+j-(i'*sz+off)=j-off by omega];exact hrel _ c hc
         ·rw[if_neg hj2]at hc;rw[if_neg (by omega)];exact o3.rel i' d j c hd hc
       ·rw[List.getElem?_set_ne (Ne.symm hii)]at hx;have hj:j<sz:=by rw[←o3.hsz x (jG hx)];exact aI hc
        have hr:=o3.rel i' x j c hx hc;rw[htk _ (oO hi' hj)];rcases Nat.lt_or_gt_of_ne hii with h1|h1
        ·have:(i'+1)*sz≤i*sz:=Nat.mul_le_mul_right _ (by omega);rw[Nat.add_mul]at this;rw[if_pos (by omega)];exact hr
        ·have:(i+1)*sz≤i'*sz:=Nat.mul_le_mul_right _ (by omega);rw[Nat.add_mul]at this;rw[if_neg (by omega),if_neg (by omega)];exact hr⟩
     (H.set id (.arr e sz (es.set i (vG d off vs)))) (by simp) (by rw[dA]at hh;have:=aI hh;simp[this]) (fun i' hi'=>by simp[List.getElem?_set,Ne.symm hi'])
    have hn':=h G0 _ a _ (h0.trans (g1.weaken hl)) (by simpa using hl) (hF.up g1 hW.lim) hdf g2;simp only[aZ]at hn' ⊢;unfold wpList;rw[if_pos (ba hg)];refine .inl ?_;have hr:(execOp a.eval o).run Γ.P w = .ok .skip (w.setRow b cur'):=by
     unfold execOp;have hne:¬(a.eval y).cells.size≠ti.size:=by
      have:(a.eval y).cells.size=vs.length:=by simpa using hcl
      omega
     simp only[hop,hxe,Instr.storeAt,Instr.sureAddr,storeVar,Sem.run_bind,Sem.run_pure,Result.andThen_ok,f.sizeOf,Sem.run_ite,if_neg hne,hstore]
    unfold Oper.wp;rw[hr];simp only[Oper.upon,hdst,Act.put];exact hn'
end
end
section
open Go Go.RowKit
theorem bM.freeze{gl:List (Nat×List D)}{G:aO}{H:List aN}{w:World}(hW:bM gl G H w){id e sz:Nat}{es:List D}(hh:H[id]?=some (.arr e sz es)):
  ∃G',GLe H.length G G'∧bM gl G' (H.set id (.front e sz es.length)) w∧∀v,G.fl id es.length=some v→bA G' v (.own sz es id):=by
 obtain⟨v,xs,o1,o2,o3,o3',o4,o5,o6⟩:=hW.obj id _ hh;have hlt:=aI hh;have hIm:dR G.imm (fun b=>if v.ownBlock=some b then xs else G.imm b):=fun b=>by
  simp only;split
  ·rename_i hb;rw[o5 b hb];exact List.nil_prefix
  ·exact List.prefix_refl _
 have hle:GLe H.length G { G with imm:=fun b=>if v.ownBlock=some b then xs else G.imm b }:=⟨rfl,rfl,rfl,hIm,fun _ _ _ h=>h,fun _ _ _ _ h=>h⟩;have hrr:d9 G.imm sz es xs:=⟨o2.1,o3,o3',o4⟩;refine⟨_,hle,hW.step hle rfl rfl rfl (Nat.le_refl _) id (.front e sz es.length) (H.set id (.front e sz es.length)) (by simp) (sG hlt) (fun id' hne=>List.getElem?_set_ne (fun e=>hne e.symm)) (fun _ _ _ _=>rfl) ?_ ?_ ?_ ?_ (fun id' hid'=>hW.lim id' (by simpa using hid')),?_⟩
 ·intro b hb hnb;refine⟨rfl,?_⟩;simp only;rw[if_neg (fun h=>hnb _ hh ⟨v,o1,h⟩)]
 ·intro b hb i hi;simp only at hi ⊢;by_cases hv:v.ownBlock=some b
  ·rw[if_pos hv]at hi ⊢;have:=o2.cells hv i (gv xs i) (jm hi)
   rwa [addr_add,Nat.zero_add]at this
  ·rw[if_neg hv]at hi ⊢;exact hW.imm b i hi
 ·exact⟨v,xs,o1,o2,fun b hb=>by simp[hb],o6⟩
 ·rintro b ⟨u,u1,u2⟩;exact .inr ⟨_,hh,u,u1,u2⟩
 ·intro u hu;rw[o1]at hu;cases hu;refine .own _ _ _ _ o1 ?_;have hrr':=hrr.mono hIm;rcases o2.2 with⟨h1,h2⟩|⟨g,cap,cur,h1,_,_,h3,_⟩
  ·have:es=[]:=List.eq_nil_of_length_eq_zero h2;subst this;rw[h1];exact .sl0 _ _ _
  ·subst h1;exact hrr'.Qu (by simp[Value.ownBlock]) h3
theorem bM.turn{gl:List (Nat×List D)}{G:aO}{H:List aN}{w:World}(hW:bM gl G H w){id:Nat}{cs cs':List AV}(hid:H[id]?=some (.cells cs))(hl:cs'.length=cs.length)(h1:∀c∈cs',c.one=true)
  (h:∀(i:Nat) (c c':AV),cs[i]?=some c→cs'[i]?=some c'→∀v,bA G v c→bA G v c'):bM gl G (H.set id (.cells cs')) w:=by
 obtain⟨b,cur,t,a1,a2,a3,a4,a5,a6⟩:=hW.obj id _ hid;have hlt:=aI hid;refine hW.step (GLe.refl _ _) rfl rfl rfl (Nat.le_refl _) id (.cells cs') (H.set id (.cells cs')) (by simp) (sG hlt) (fun id' hne=>List.getElem?_set_ne (fun e=>hne e.symm)) (fun _ _ _ _=>rfl)
  (fun _ _ _=>⟨rfl,rfl⟩) (fun b' _ i hi=>hW.imm b' i hi) ⟨b,cur,t,a1,a2,by omega,h1,fun i c' hc'=>?_,a6⟩ (fun b' hb' => .inr ⟨_,hid,hb'⟩) (fun id' hid'=>hW.lim id' (by simpa using hid'))
 have hi:i<cs.length:=by have:=aI hc';omega
 exact h i _ c' (List.getElem?_eq_getElem hi) hc' _ (a5 i _ (List.getElem?_eq_getElem hi))
theorem df.over{G:aO}{nt:Nat}{tmps:Array Value}{env:Env}(hF:df G nt tmps env){t:Nat}{r:AV}(h:bA G (tmps.getD t undef) r):df G nt tmps ((t,r)::env) :=
 ⟨hF.size,fun i=>by
  simp only[Env.get];cases hb:Nat.beq t i with
  |true=>have:=Nat.eq_of_beq_eq_true hb;subst this;exact h
  |false=>exact hF.rel i⟩
theorem bM.ghost{gl:List (Nat×List D)}{G:aO}{H:List aN}{w:World}(hW:bM gl G H w)(e sz:Nat):
  ∃G',GLe H.length G G'∧bM gl G' (H++[.arr e sz []]) w∧bA G' (.slice none 0 0) (.ms H.length 0):=by
 obtain⟨g1,g2⟩:=hW.qW (w':=w) (e:=e) (sz:=sz) (n:=0) (v := .slice none 0 0) (v' := .slice none 0 0) (es':=[]) (ys:=[]) H.length (.inr ⟨rfl,rfl,rfl⟩) (Nat.le_refl _) (fun h _=>rfl) rfl rfl rfl (Nat.le_refl _)
  (fun b hb => by cases hb) (fun _ _ _ => rfl) (World.ownsRow_nil _ _ _ _) (.nil _ _) (H ++ [.arr e sz []]) (by simp) (by simp) (fun i hi => by
   rcases Nat.lt_or_ge i H.length with h1|h1
   ·simp[List.getElem?_append_left h1]
   ·rw[List.getElem?_append_right h1,List.getElem?_eq_none h1];have:i-H.length=(i-H.length-1)+1:=by omega
    rw[this];simp)
 exact⟨_,g1,g2, .ms _ _ _ (by simp[aO.rY]) rfl⟩
theorem LM{w w':World}{e sz n m:Nat}{z v v':Value}{xs news:List Value}(h:Apd w e sz z v n xs m news v' w')(hm:m=0):v'=v:=by
 subst hm;cases h with
 |inPlace g cap cur hv=>rw[hv];rfl
 |grown c h0=>omega
 |nil=>rfl
section
variable {Γ:Ctx}{nt n0:Nat}{k:List It}{Q:Post}{env:Env}{H:List aN}{G:aO}{w:World}
theorem aa.AQ(t:Nat){id e sz n:Nat}{es:List D}(ht:env.get t = .ms id n)(hh:hget H id=some (.arr e sz es))(hn:es.length=n)
  (h:aa Γ nt n0 k Q ((t, .own sz es id)::env) (H.set id (.front e sz es.length))):aa Γ nt n0 k Q env H :=
 fun G0 G a w h0 hl hF hdf hW=>by
  rw[dA]at hh;obtain⟨G',g1,g2,g3⟩:=hW.freeze hh;have hv:=hF.rel t;rw[ht]at hv;refine h G0 G' a w (h0.trans (g1.weaken hl)) (by simpa using hl) ((hF.up g1 hW.lim).over ?_) hdf g2;generalize a.tmps.getD t undef=u at hv;cases hv with
  |ms _ _ _ h1 h2=>exact g3 u (by rw[hn];exact h1)
theorem aa.Qf(t e sz:Nat)(ht:env.get t = .d .aU)(h:aa Γ nt n0 k Q ((t, .ms H.length 0)::env) (H++[.arr e sz []])):aa Γ nt n0 k Q env H :=
 fun G0 G a w h0 hl hF hdf hW=>by
  obtain⟨G',g1,g2,g3⟩:=hW.ghost e sz;have hv:=hF.rel t;rw[ht]at hv;refine h G0 G' a w (h0.trans (g1.weaken hl)) (by simp;omega) ((hF.up g1 hW.lim).over ?_) hdf g2;generalize a.tmps.getD t undef=u at hv;cases hv with
  |d _ _ hd=>cases hd;exact g3
theorem aa.rT(id i e sz:Nat){cs:List AV}(hh:hget H id=some (.cells cs))(hc:cs[i]?=some (.d .aU))(h:aa Γ nt n0 k Q env (H.set id (.cells (cs.set i (.ms H.length 0)))++[.arr e sz []])):aa Γ nt n0 k Q env H :=
 fun G0 G a w h0 hl hF hdf hW=>by
  rw[dA]at hh;have hlt:=aI hh;obtain⟨G',g1,g2,g3⟩:=hW.ghost e sz;obtain⟨_,_,_,_,_,_,a4,_,_⟩:=hW.obj id _ hh
  have g4:=g2.turn (id:=id) (cs:=cs) (cs':=cs.set i (.ms H.length 0)) (by rw[List.getElem?_append_left hlt];exact hh) (by simp) (fun c hc'=>by
   rcases List.mem_or_eq_of_mem_set hc' with h1|h1
   ·exact a4 c h1
   ·subst h1;rfl) (fun j c c' h1 h2 v hv=>by
   by_cases hij:i=j
   ·subst hij;rw[List.getElem?_set_self (aI h1)]at h2;cases h2;rw[hc]at h1;cases h1;cases hv with
    |d _ _ hd=>cases hd;exact g3
   ·rw[List.getElem?_set_ne hij,h1]at h2
    cases h2;exact hv)
  rw[List.set_append_left _ _ hlt]at g4;exact h G0 G' a w (h0.trans (g1.weaken hl)) (by simp;omega) (hF.up g1 hW.lim) hdf g4
theorem aa.RV{all:Array Oper}{o:Oper}{l:List Oper}{t T e:Nat}{te ti:TI}{x y:Operand}{kl kc:IntKind}{n c:Int}(hop:o.op = .makeSlice T x y)(hg:o.guard=none)(hd:o.dst=some t)(ht:Nat.ble (t+1) nt=true)
  (hT:aY Γ.T T=some ti) (hsh:ti.sh = .slice e) (hE:aY Γ.T e=some te) (hx:ev Γ env x = .d (.int kl n)) (hy:ev Γ env y = .d (.int kc c)) (hlim:(0≤n∧n≤c)∧(te.bytes:Int)*c≤281474976710656∧c≤9223372036854775807)
  (h:aa Γ nt n0 (.ops all l::k) Q ((t, .ms H.length n.toNat)::env) (H++[.arr e te.size (List.replicate n.toNat (zD te))])):aa Γ nt n0 (.ops all (o::l)::k) Q env H :=
 fun G0 G a w h0 hl hF hdf hW=>by
  obtain⟨f⟩:=Γ.ty hT;obtain⟨fe⟩:=Γ.ty hE;have e1:=bN hW hF x;rw[hx]at e1;have v1:=e1.cT;have e2:=bN hW hF y;rw[hy]at e2;have v2:=e2.cT;have hr:=run_make (P:=Γ.P) w T e fe.i fe.z (cQ f hsh) fe.info fe.hz kl kc n c hlim.1.1 hlim.1.2 (by rw[fe.bytes];exact hlim.2.1) hlim.2.2;rw[fe.size]at hr;have hnc:n.toNat≤c.toNat:=by omega
  have hsz:=size_madeCells fe.z.cells (c.toNat*te.size);have hm:=Nat.mul_le_mul_right te.size hnc;have hrr:=CH (imm:=G.imm) fe n.toNat c.toNat hnc;obtain⟨g1,g2⟩:=hW.qW (w':=w.alloc (.cells (madeCells fe.z.cells (c.toNat*te.size)) e)) (e:=e) (sz:=te.size) (n:=0) (v := .slice none 0 0) (v' := .slice (some ⟨w.heap.size,0,none⟩) n.toNat c.toNat)
   (es':=List.replicate n.toNat (zD te)) (ys:=(madeCells fe.z.cells (c.toNat*te.size)).toList.take (n.toNat*te.size)) H.length (.inr ⟨rfl,rfl,rfl⟩) (by simp) (fun h _=>by omega) rfl rfl rfl (by simp)
   (fun b hb => .inr (by simp[Value.ownBlock]at hb;omega)) (fun b hb _=>heap_alloc_old w _ hb)
   ⟨by simp only[List.length_take,Array.length_toList,hsz,List.length_replicate];omega, .inr ⟨w.heap.size,c.toNat,madeCells fe.z.cells (c.toNat*te.size),by rw[List.length_replicate],Nat.zero_le _,heap_alloc_new w _,by simpa using hnc,by simp only[maxLen];omega,hsz,by rw[List.length_replicate]⟩⟩
   hrr (H++[.arr e te.size (List.replicate n.toNat (zD te))]) (by simp) (by simp) (fun i hi=>by
    rcases Nat.lt_or_ge i H.length with h1|h1
    ·simp[List.getElem?_append_left h1]
    ·rw[List.getElem?_append_right h1,List.getElem?_eq_none h1];have:i-H.length=(i-H.length-1)+1:=by omega
     rw[this];simp)
  rw[List.length_replicate]at g1 g2;have hn:=h G0 _ (a.put (some t) (.slice (some ⟨w.heap.size,0,none⟩) n.toNat c.toNat)) _ (h0.trans (g1.weaken hl)) (by simp;omega) ((hF.up g1 hW.lim).put ht (.ms _ _ _ (by simp[aO.rY]) rfl)) (by simp[Act.put,hdf]) g2;simp only[aZ]at hn ⊢;unfold wpList;rw[if_pos (ba hg)];refine .inl ?_;have hr':(execOp a.eval o).run Γ.P w = .ok (.value (.slice (some ⟨w.heap.size,0,none⟩) n.toNat c.toNat)) (w.alloc (.cells (madeCells fe.z.cells (c.toNat*te.size)) e)):=by
   unfold execOp;simp[hop,v1,v2,hr]
  unfold Oper.wp;rw[hr'];simp only[Oper.upon,hd];exact hn
theorem aa.mX{all:Array Oper}{o:Oper}{l:List Oper}{t T T2 e id n:Nat}{es es2:List D}{te ti:TI}{s x:Operand}
  (hop:o.op = .call { callee := .builtin .append,args:=#[s,x],argTypes:=#[T,T2] }) (hg:o.guard=none) (hd:o.dst=some t) (ht:Nat.ble (t+1) nt=true)
  (hT:aY Γ.T T=some ti) (hsh:ti.sh = .slice e) (hE:aY Γ.T e=some te) (hs:ev Γ env s = .ms id n) (hh:hget H id=some (.arr e te.size es)) (hx:DL Γ T2 te.size (ev Γ env x)=some es2)
  (hpos:Nat.ble 1 te.size=true) (hn:es.length=n) (hlim:es.length+es2.length≤140737488355328∧(es.length+es2.length)*te.bytes≤140737488355328)
  (h:aa Γ nt n0 (.ops all l::k) Q ((t, .ms id (es++es2).length)::env) (H.set id (.arr e te.size (es++es2)))):aa Γ nt n0 (.ops all (o::l)::k) Q env H :=
 fun G0 G a w h0 hl hF hdf hW=>by
  subst hn;obtain⟨f⟩:=Γ.ty hT;obtain⟨fe⟩:=Γ.ty hE;have hp:0<te.size:=Nat.le_of_ble_eq_true hpos;have hund:=cQ f hsh;have hzs:fe.z.cells.size=te.size:=by
   have:=(iq (imm:=G.imm) fe.zok).1;rw[fe.zlen]at this;simpa using this
  have hsv:=bN hW hF s;rw[hs]at hsv;generalize hve:a.eval s=v at hsv;obtain⟨xs,o1,o2,o3⟩:=Eg hW hh rfl hsv;rw[dA]at hh;have hlt:=aI hh;obtain⟨news,hsrc,hrn⟩:=src_ok hW hp (bN hW hF x) hx;obtain⟨v',w',hr,hapd⟩:=Fe (P:=Γ.P) w T T2 o.type e fe.i fe.z te.size te.bytes hund fe.info fe.hz fe.size fe.bytes v es.length xs o2 (a.eval x) es2.length news hsrc
   (by simp only[maxLen];omega) hlim.2
  have hown':=hapd.owns hzs o2 hsrc.hl;rw[←List.length_append]at hown';obtain⟨g1,g2⟩:=hW.qW (w':=w') (e:=e) (sz:=te.size) (n:=es.length) (v:=v) (v':=v') (es':=es++es2) (ys:=xs++news) id (.inl ⟨es,hh,rfl,o1⟩) (by simp)
   (fun _ he=>LM hapd (by rw[List.length_append]at he;omega)) (by cases hapd<;>rfl) (by cases hapd<;>rfl) (by cases hapd<;>rfl) (by cases hapd<;>simp)
   (fun b hb => by
    cases hapd with
    |inPlace g cap cur hv=>left;rw[hv];simpa[Value.ownBlock]using hb
    |grown c=>right;simp[Value.ownBlock]at hb;omega
    |nil=>exact .inl hb)
   (fun b hb hne => by
    cases hapd with
    |inPlace g cap cur hv=>exact setRow_other w g b _ (fun e=>hne (by rw[hv,e];rfl))
    |grown c=>exact heap_alloc_old w.drew _ hb
    |nil=>rfl)
   hown' (o3.append hrn) (H.set id (.arr e te.size (es++es2))) (by simp) (by simp[hlt]) (fun i hi=>by simp[List.getElem?_set,Ne.symm hi])
  have hone:v'.oneCell'=true:=by
   obtain⟨ad,cap,hv⟩:=q9 hown';rw[hv];rfl
  have hn:=h G0 _ (a.put (some t) v') w' (h0.trans (g1.weaken hl)) (by simpa using hl) ((hF.up g1 hW.lim).put ht (.ms _ _ _ (by simp[aO.rY]) hone)) (by simp[Act.put,hdf]) g2;simp only[aZ]at hn ⊢;unfold wpList;rw[if_pos (ba hg)];refine .inl ?_;have hr':=sH (P:=Γ.P) hop a (by rw[hve];exact hr);unfold Oper.wp;rw[hr'];simp only[Oper.upon,hd];exact hn
theorem D6{o:Oper}{S Dt e e' id n:Nat}{x:Operand}{ti te td:TI}{es:List D}{l:List UInt8}(hop:o.op = .convert S Dt x)(hS:aY Γ.T S=some ti)(hsh:ti.sh = .slice e)(hE:aY Γ.T e=some te)
  (hesh:te.sh = .int .u8) (hD:aY Γ.T Dt=some td) (hdsh:td.sh = .str) (hx:ev Γ env x = .ms id n) (hh:hget H id=some (.arr e' 1 es)) (hn:es.length=n) (hes:es=bI l):eu Γ nt env H o (.d (.str l)):=by
 intro G a w hW hF;subst hes;obtain⟨f⟩:=Γ.ty hS;obtain⟨fe⟩:=Γ.ty hE;obtain⟨fd⟩:=Γ.ty hD;refine⟨.string ⟨l.toArray⟩,BH l,fun w' hb=>?_⟩;have hW':=hW.below hb;have hxv:=bN hW' hF x;rw[hx]at hxv;obtain⟨xs,o1,o2,o3⟩:=Eg hW' hh hn hxv;obtain⟨ad,cap,hv⟩:=q9 o2;rw[dA]at hh;obtain⟨G',g1,g2,g3⟩:=hW'.freeze hh;have hd:=g3 (a.eval x) (by rw[hn];exact o1);have hb:=rf g2 (Ag hd);rw[hv]at hb;have hc:=run_convert_bytes_string (P:=Γ.P) w' S Dt e ad n cap (cQ f hsh) (kX fe hesh) (gG fd hdsh);unfold execOp;simp[hop,hv,hc,hb]
end
end
section
open Go Go.RowKit
theorem ACalls.more{gl gl':List (Nat×List D)}{f:FuncId}{args:List AV}{H:List aN}{R:AV→List aN→Prop}(hs:∀p∈gl,p∈gl')(h:ACalls (cxg gl) f args H R):ACalls (cxg gl') f args H R :=
 ⟨h.1,fun G w vs hW hA=>(h.2 G w vs { hW with glob:=fun g cs hm=>hW.glob g cs (hs _ hm) } hA).mono fun e w' ⟨v,r,H',G',h1,h2,h3,h4,h5,h6⟩ =>
  ⟨v,r,H',G',h1,h2,h3,h4,h5,{ h6 with glob:=fun g cs hm=>(hW.glob g cs hm).mono h4.imm }⟩⟩
theorem JC:BitVec.ofInt 64 (-1)=BitVec.allOnes 64:=by decide
theorem Ih(n:Int)(h:0≤n∧n≤9223372036854775807):IntKind.i64.wrap ((BitVec.ofInt 64 (-1) ^^^ BitVec.ofInt 64 n).toNat:Int) = -1-n:=by
 have e1:=pX 64 h.1 (by omega);rw[JC,BitVec.allOnes_xor,BitVec.toNat_not,e1];simp only[IntKind.wrap,IntKind.signed,IntKind.bits];simp;omega
theorem Hg(y:Int):((BitVec.ofInt 64 y).toNat:Int)=y%18446744073709551616:=by
 rw[BitVec.toNat_ofInt];have:0≤y%18446744073709551616:=by omega
 simp;omega
theorem GA(x y:Int)(hx:x=0∨x=1):IntKind.i64.wrap ((BitVec.ofInt 64 x &&& BitVec.ofInt 64 y).toNat:Int)=x*(y%2):=by
 rw[BitVec.toNat_and];rcases hx with rfl|rfl
 ·have e0:(BitVec.ofInt 64 0).toNat=0:=by decide
  rw[e0,Nat.zero_and];simp[IntKind.wrap,IntKind.signed,IntKind.bits]
 ·have e0:(BitVec.ofInt 64 1).toNat=1:=by decide
  have e1:=Hg y;rw[e0,Nat.and_comm,Nat.and_one_is_mod];generalize (BitVec.ofInt 64 y).toNat=m at e1;rw[wrap_i64 (by omega)];omega
section
variable {Γ:Ctx}{nt n0:Nat}{k:List It}{Q:Post}{env:Env}{H:List aN}
theorem D7{o:Oper}{T:Nat}{x:Operand}{n:Int}(hop:o.op = .unOp .xor T x)(hx:ev Γ env x = .d (.int .i64 n))(hn:0≤n∧n≤9223372036854775807):eu Γ nt env H o (.d (.int .i64 (-1-n))):=by
 intro G a w hW hF;have hxv:=bN hW hF x;rw[hx]at hxv;refine⟨_, .d _ _ (.int ..),fun w' hb=>?_⟩;have:=Ih n hn;unfold execOp;simp only[hop,hxv.cT,Op.unary,Op.intBits,IntKind.signed,IntKind.bits,if_true,Sem.run_bind,Sem.run_pure,Result.andThen_ok];exact congrArg (fun z=>Result.ok (Next.value (Value.int .i64 z)) w') this
theorem D8{o:Oper}{T T':Nat}{x y:Operand}{m n:Int}(hop:o.op = .binOp .and T x y T')(hx:ev Γ env x = .d (.int .i64 m))(hy:ev Γ env y = .d (.int .i64 n))(hm:m=0∨m=1):eu Γ nt env H o (.d (.int .i64 (m*(n%2)))):=by
 intro G a w hW hF;have hxv:=bN hW hF x;rw[hx]at hxv;have hyv:=bN hW hF y;rw[hy]at hyv;refine⟨_, .d _ _ (.int ..),fun w' hb=>?_⟩;have:=GA m n hm;unfold execOp;simp only[hop,hxv.cT,hyv.cT,jW,binOp,Op.intBits,IntKind.bits,ne_eq,not_true_eq_false,if_false,Sem.run_bind,Sem.run_pure,Result.andThen_ok];exact congrArg (fun z=>Result.ok (Next.value (Value.int .i64 z)) w') this
end
end
section
open Go Go.RowKit
theorem bM.Ny{gl:List (Nat×List D)}{G:aO}{H:List aN}{w:World}(hW:bM gl G H w)(s:ByteArray):
  GLe H.length G (G.bind H.length w.heap.size)∧bM gl (G.bind H.length w.heap.size) (H++[.siter s 0]) (w.alloc (.stringIter s 0)):=by
 have hle:GLe H.length G (G.bind H.length w.heap.size):=⟨rfl,rfl,rfl, .refl _,fun id b hid hb=>by simp[aO.bind,Nat.ne_of_lt hid,hb],fun id n v _ hb=>hb⟩;have immz:G.imm w.heap.size=[]:=jE hW (Nat.le_refl _);refine⟨hle,hW.step (w':=w.alloc (.stringIter s 0)) (H':=H++[.siter s 0]) hle rfl rfl rfl (by simp) H.length (.siter s 0) (by simp) (by simp) (fun id hne=>?_) (fun id _ _ k=>rfl) (fun b hb _=>⟨?_,rfl⟩) (fun b hb i hi=>?_) ?_ (fun b hb=>?_) (fun id hid=>?_)⟩
 ·rcases Nat.lt_or_ge id H.length with h|h
  ·exact List.getElem?_append_left h
  ·rw[List.getElem?_eq_none (by simp;omega),List.getElem?_eq_none h]
 ·exact Below.heap_alloc _ _ _ hb
 ·have hi':i<(G.imm b).length:=hi;rcases hb with hb|⟨oj,hj,_⟩
  ·rw[jE hW hb]at hi';simp at hi'
  ·simp at hj
 ·exact⟨w.heap.size,by simp[aO.bind],heap_alloc_new w _,immz⟩
 ·simp only[OB,aO.bind,if_true]at hb;cases hb;exact .inl (Nat.le_refl _)
 ·simp only[List.length_append,List.length_singleton]at hid;refine⟨?_,(hW.lim id (by omega)).2⟩;simp only[aO.bind,if_neg (show ¬id=H.length by omega)];exact (hW.lim id (by omega)).1
theorem bM.Nw{gl:List (Nat×List D)}{G:aO}{H:List aN}{w:World}(hW:bM gl G H w){id b:Nat}{s:ByteArray}{p:Nat}(hid:H[id]?=some (.siter s p))(hb:G.loc id=some b)(q:Nat):
  bM gl G (H.set id (.siter s q)) { w with heap:=w.heap.setIfInBounds b (.stringIter s q) }:=by
 obtain⟨b0,a1,a2,a3⟩:=hW.obj id _ hid;rw[hb]at a1;cases a1;have hlt:=aI hid;have hbs:b<w.heap.size:=(Array.getElem?_eq_some_iff.1 a2).1;refine hW.step (w':={ w with heap:=w.heap.setIfInBounds b (.stringIter s q) }) (H':=H.set id (.siter s q)) (GLe.refl _ _) rfl rfl rfl (by simp) id (.siter s q) (by simp) (sG hlt) (fun id' hne=>List.getElem?_set_ne (fun e=>hne e.symm)) (fun _ _ _ _=>rfl)
  (fun b' hb' hno=>⟨?_,rfl⟩) (fun b' hb' i hi=>?_) ⟨b,hb,by simp[hbs],a3⟩ (fun b' hob => .inr ⟨_,hid,hob⟩) (fun id' hid'=>hW.lim id' (by simpa using hid'))
 ·have hne:b≠b':=fun e=>hno _ hid (by subst e;exact hb)
  simp[Array.getElem?_setIfInBounds,hne]
 ·rcases hb' with hb'|⟨oj,hj,hob⟩
  ·rw[jE hW hb']at hi;simp at hi
  ·rw[hid]at hj;cases hj;simp only[OB]at hob;rw[hb]at hob;cases hob;rw[a3]at hi;simp at hi
theorem decode_high(s:ByteArray)(pos:Nat)(h:pos<s.size)(ha:128≤(s[pos]'h).toNat):128≤(Utf8.decode s pos).1∧(Utf8.decode s pos).1≤2097151:=by
 have e:s.get! (pos+0)=s[pos]'h:=by
  show s.get! pos=_;simp[ByteArray.get!,getElem!_pos,h];rfl
 have hlt:(s[pos]'h).toNat<256:=(s[pos]'h).toNat_lt;unfold Utf8.decode;simp only[e,Utf8.runeError];rw[if_neg (by omega)];have m1:(s.get! (pos+1)).toNat%64<64:=Nat.mod_lt _ (by decide);have m2:(s.get! (pos+2)).toNat%64<64:=Nat.mod_lt _ (by decide);have m3:(s.get! (pos+3)).toNat%64<64:=Nat.mod_lt _ (by decide);repeat' split
 all_goals simp_all
 all_goals omega
section
variable {Γ:Ctx}{nt n0:Nat}{k:List It}{Q:Post}{env:Env}{H:List aN}
theorem aa.Py{all:Array Oper}{o:Oper}{l:List Oper}{t T:Nat}{ti:TI}{x:Operand}{s:List UInt8}(hop:o.op = .range T x)(hg:o.guard=none)(hd:o.dst=some t)(ht:Nat.ble (t+1) nt=true)
  (hT:aY Γ.T T=some ti) (hsh:ti.sh = .str) (hx:ev Γ env x = .d (.str s))
  (h:aa Γ nt n0 (.ops all l::k) Q ((t, .it H.length)::env) (H++[.siter ⟨s.toArray⟩ 0])):aa Γ nt n0 (.ops all (o::l)::k) Q env H :=
 fun G0 G a w h0 hl hF hdf hW=>by
  obtain⟨f⟩:=Γ.ty hT;have hxv:=bN hW hF x;rw[hx]at hxv;obtain⟨g1,g2⟩:=hW.Ny ⟨s.toArray⟩;have hv:bA (G.bind H.length w.heap.size) (.pointer (some ⟨w.heap.size,0,none⟩)) (.it H.length) := .it _ _ (by simp[aO.bind]);have hn:=h G0 _ (a.put (some t) (.pointer (some ⟨w.heap.size,0,none⟩))) _ (h0.trans (g1.weaken hl)) (by simp;omega) ((hF.up g1 hW.lim).put ht hv) (by simp[Act.put,hdf]) g2;simp only[aZ]at hn ⊢;unfold wpList;rw[if_pos (ba hg)];refine .inl ?_;have hr:(execOp a.eval o).run Γ.P w = .ok (.value (.pointer (some ⟨w.heap.size,0,none⟩))) (w.alloc (.stringIter ⟨s.toArray⟩ 0)):=by
   have:=run_range_string (P:=Γ.P) w T ⟨s.toArray⟩ (gG f hsh);unfold execOp;simp only[hop,hxv.gV,Sem.run_bind,this,Result.andThen_ok,Sem.run_pure];rfl
  unfold Oper.wp;rw[hr];simp only[Oper.upon,hd];exact hn
theorem yP{all:Array Oper}{o:Oper}{l:List Oper}{t id p q:Nat}{x:Operand}{s:ByteArray}{c:Nat}{G0 G:aO}{a:Act}{w:World}(hop:o.op = .next x true)(hg:o.guard=none)(hd:o.dst=some t)(ht:Nat.ble (t+1) nt=true)
  (hx:ev Γ env x = .it id) (hh:hget H id=some (.siter s p)) (hp:p<s.size) (hc:Utf8.decode s p=(c,q))
  (h0:GLe n0 G0 G) (hl:n0≤H.length) (hF:df G nt a.tmps env) (hdf:a.defers=[]) (hW:bM Γ.gl G H w)
  (h:aa Γ nt n0 (.ops all l::k) Q ((t, .cH [.d (.bool true), .d (.int .i64 p), .d (.int .i32 c)])::env) (H.set id (.siter s (p+q)))):aZ Γ.P (Conc Γ nt n0 G0 Q) (.ops all (o::l)::k) .normal a w:=by
 have hxv:=bN hW hF x;rw[hx]at hxv;rw[dA]at hh;obtain⟨b,a1,a2,a3⟩:=hW.obj id _ hh;generalize hxe:a.eval x=xv at hxv;cases hxv with
 | it b' _ hb' =>
  rw[a1]at hb';cases hb';have g2:=hW.Nw hh a1 (p+q);have hv:bA G (.tuple #[.bool true, .int .i64 p, .int .i32 c]) (.cH [.d (.bool true), .d (.int .i64 p), .d (.int .i32 c)]):=by
   refine .cH _ _ rfl fun i x hx=>?_
   match i,hx with
   |0,hx=>cases hx;exact .d _ _ (.bool _)
   |1,hx=>cases hx;exact .d _ _ (.int ..)
   |2,hx=>cases hx;exact .d _ _ (.int ..)
   |i+3,hx=>simp at hx
  have hn:=h G0 G (a.put (some t) (.tuple #[.bool true, .int .i64 p, .int .i32 c])) _ h0 (by simpa using hl) (hF.put ht hv) (by simp[Act.put,hdf]) g2;simp only[aZ]at hn ⊢;unfold wpList;rw[if_pos (ba hg)];refine .inl ?_;have hr:(execOp a.eval o).run Γ.P w = .ok (.value (.tuple #[.bool true, .int .i64 p, .int .i32 c])) { w with heap:=w.heap.setIfInBounds b (.stringIter s (p+q)) }:=by
   unfold execOp;simp[hop,hxe,Instr.next,getObj,setObj,Sem.run,Result.andThen,a2,hp,hc,goInt]
  unfold Oper.wp;rw[hr];simp only[Oper.upon,hd];exact hn
theorem aa.FI{all:Array Oper}{o:Oper}{l:List Oper}{t id p:Nat}{x:Operand}{s:ByteArray}(hop:o.op = .next x true)(hg:o.guard=none)(hd:o.dst=some t)(ht:Nat.ble (t+1) nt=true)
  (hx:ev Γ env x = .it id) (hh:hget H id=some (.siter s p)) (hp:s.size≤p)
  (h:aa Γ nt n0 (.ops all l::k) Q ((t, .cH [.d (.bool false)])::env) H):aa Γ nt n0 (.ops all (o::l)::k) Q env H :=
 fun G0 G a w h0 hl hF hdf hW=>by
  have hxv:=bN hW hF x;rw[hx]at hxv;rw[dA]at hh;obtain⟨b,a1,a2,a3⟩:=hW.obj id _ hh;generalize hxe:a.eval x=xv at hxv;cases hxv with
  | it b' _ hb' =>
   rw[a1]at hb';cases hb';have hv:bA G (.tuple #[.bool false]) (.cH [.d (.bool false)]):=by
    refine .cH _ _ rfl fun i x hx=>?_
    match i,hx with
    |0,hx=>cases hx;exact .d _ _ (.bool _)
    |i+1,hx=>simp at hx
   have hn:=h G0 G (a.put (some t) (.tuple #[.bool false])) w h0 hl (hF.put ht hv) (by simp[Act.put,hdf]) hW;simp only[aZ]at hn ⊢;unfold wpList;rw[if_pos (ba hg)];refine .inl ?_;have hr:(execOp a.eval o).run Γ.P w = .ok (.value (.tuple #[.bool false])) w:=by
    unfold execOp;simp[hop,hxe,Instr.next,getObj,Sem.run,Result.andThen,a2,show ¬p<s.size by omega]
   unfold Oper.wp;rw[hr];simp only[Oper.upon,hd];exact hn
theorem Gt(s:List UInt8):(⟨s.toArray⟩:ByteArray).size=s.length:=List.size_toArray
theorem SJ(s:List UInt8)(p:Nat)(b:UInt8)(h:s[p]?=some b)(hp:p<(⟨s.toArray⟩:ByteArray).size):(⟨s.toArray⟩:ByteArray)[p]'hp=b:=by
 have hl:=aI h;have:s[p]=b:=by simpa[hl]using h
 rw[←this];rfl
theorem aa.Cu{all:Array Oper}{o:Oper}{l:List Oper}{t id p:Nat}{x:Operand}{s:List UInt8}{b:UInt8}(hop:o.op = .next x true)(hg:o.guard=none)(hd:o.dst=some t)(ht:Nat.ble (t+1) nt=true)
  (hx:ev Γ env x = .it id) (hh:hget H id=some (.siter ⟨s.toArray⟩ p)) (hp:s[p]?=some b) (hb:b.toNat<128) {n:Int} (hnn:(b.toNat:Int)=n)
  (h:aa Γ nt n0 (.ops all l::k) Q ((t, .cH [.d (.bool true), .d (.int .i64 p), .d (.int .i32 n)])::env) (H.set id (.siter ⟨s.toArray⟩ (p+1)))):aa Γ nt n0 (.ops all (o::l)::k) Q env H :=
 fun G0 G a w h0 hl hF hdf hW=>by
  have hps:p<(⟨s.toArray⟩:ByteArray).size:=by rw[Gt];exact aI hp
  have e:=SJ s p b hp hps;subst hnn;exact yP hop hg hd ht hx hh hps (by rw[decode_ascii _ p hps (by rw[e];exact hb),e]) h0 hl hF hdf hW h
theorem aa.RI{all:Array Oper}{o:Oper}{l:List Oper}{t id p:Nat}{x:Operand}{s:List UInt8}{b:UInt8}(hop:o.op = .next x true)(hg:o.guard=none)(hd:o.dst=some t)(ht:Nat.ble (t+1) nt=true)
  (hx:ev Γ env x = .it id) (hh:hget H id=some (.siter ⟨s.toArray⟩ p)) (hp:s[p]?=some b) (hb:128≤b.toNat)
  (h:∀(c:Int) (q:Nat),128≤c→c≤2097151→aa Γ nt n0 (.ops all l::k) Q ((t, .cH [.d (.bool true), .d (.int .i64 p), .d (.int .i32 c)])::env) (H.set id (.siter ⟨s.toArray⟩ q))):aa Γ nt n0 (.ops all (o::l)::k) Q env H :=
 fun G0 G a w h0 hl hF hdf hW=>by
  have hps:p<(⟨s.toArray⟩:ByteArray).size:=by rw[Gt];exact aI hp
  have e:=SJ s p b hp hps;obtain⟨d1,d2⟩:=decode_high _ p hps (by rw[e];exact hb);exact yP (c:=(Utf8.decode (⟨s.toArray⟩:ByteArray) p).1) (q:=(Utf8.decode (⟨s.toArray⟩:ByteArray) p).2) hop hg hd ht hx hh hps rfl h0 hl hF hdf hW (h _ _ (by omega) (by omega))
end
end
section
open Go Go.RowKit
section
variable {Γ:Ctx}{nt n0:Nat}{k:List It}{Q:Post}{env:Env}{H:List aN}
theorem bR{o:Oper}{T e sz:Nat}{ti te:TI}{es:List D}{x y:Operand}{ky:IntKind}{i:Int}{d:D}(hop:o.op = .indexAddr T x y)(hT:aY Γ.T T=some ti)(hsh:ti.sh = .slice e)(hE:aY Γ.T e=some te)
  (hx:(ev Γ env x).unD=some (.sl sz es)) (hy:ev Γ env y = .d (.int ky i)) (hs:Nat.beq sz te.size=true) (hi:0≤i∧i<(es.length:Int)) (hd:es.getD i.toNat .top=d):eu Γ nt env H o (.d (.iptr d.cells)):=by
 intro G a w hW hF;subst hd;obtain⟨f⟩:=Γ.ty hT;have hyv:=bN hW hF y;rw[hy]at hyv;have hxd:=uo (bN hW hF x) hx;obtain⟨r,h1,h2⟩:=rJ (G:=G) (Γ:=Γ) (k:=ky) (cQ f hsh) hE hxd hs hi;refine⟨r,h1,fun w' hb=>?_⟩;unfold execOp;simp only[hop,hyv.cT,Sem.run_bind,h2 w',Result.andThen_ok,Sem.run_pure]
end
end
section
open Go Go.RowKit
section
variable {P:Program}{ops:Array Oper}{Q':Exit→Act→World→Prop}{S:World→Prop}{m:Nat}
def ER(P:Program)(ops:Array Oper)(Q':Exit→Act→World→Prop)(S:World→Prop):List Nat→(Act→World→Prop)→Act→World→Prop
 |[],K,a,w=>K a w
 |i::r,K,a,w=>∃o,ops[i]?=some o∧o.guard=none∧o.wp P a w (fun a' w'=>S w'∧ER P ops Q' S r K a' w') Q'
def yE(ops:Array Oper)(g n:Nat):List Nat→Array Bool→Bool
 |[],listed=>Region.seqB .any ops g n listed
 |i::r,listed=>decide (Region.ready .any ops listed=[i])&&yE ops g n r (listed.setIfInBounds i true)
def Cc(ops:Array Oper)(g n:Nat)(pre:List Nat):List Nat→Array Bool→Bool
 |[],listed=>yE ops g n pre listed
 |i::r,listed=>((Region.ready .any ops listed).contains i&&Region.free .any ops listed i)&&Cc ops g n pre r (listed.setIfInBounds i true)
theorem wC{l:List Oper}{n:Nat}(hmn:m≤n)(hl:∀j,l[j]?=ops[n+j]?):∀(pre:List Nat) (listed:Array Bool) (a:Act) (w:World),yE ops l.length n pre listed=true →
  ER P ops Q' S pre (wpList P ops Q' l) a w→fB P ops Q' S m (pre.length+l.length) listed a w
 |[],listed,a,w,hB,h=>by
  rw[List.length_nil,Nat.zero_add];exact rz l n listed a w hmn hl hB h
 |i::r,listed,a,w,hB,h=>by
  simp only[yE,Bool.and_eq_true,decide_eq_true_eq]at hB;obtain⟨o,h0,hg,h⟩:=h;rw[show (i::r).length+l.length=(r.length+l.length)+1 by simp;omega];refine⟨fun h1=>(by rw[hB.1]at h1;cases h1),fun j hj=>?_⟩;have:j=i:=by rw[hB.1]at hj;simpa using hj
  subst this;unfold wpOp;simp only[h0];rw[if_pos (ba hg)];exact .inl (Oper.wp_mono (fun a' w' h'=>⟨fun _ _=>h'.1,wC hmn hl r _ a' w' hB.2 h'.2⟩) h)
end
section
variable {Γ:Ctx}{nt n0:Nat}{k:List It}{Q:Post}{env:Env}{H:List aN}{G:aO}
theorem AJ{all:Array Oper}{Q':Exit→Act→World→Prop}{g g' n m:Nat}{pre:List Nat}(hms:m≤all.size)(hsel:Region.noSelect all=true)(hQ:∀c a w,¬Q' (.panic c) a w){w:World}(hW:bM Γ.gl G H w){env':Env}{ds:List Deferred}
  (hK:∀listed a,yE all g n pre listed=true→df G nt a.tmps env'→a.defers=ds→fB Γ.P all Q' (fun w'=>KB G [] w w') m g' listed a w) :
  ∀(hs:List Nat) (lh:List Oper) (listed:Array Bool) (a:Act) (env:Env),dJ Γ nt H [] env lh env'→hs.map (all[·]?)=lh.map some→(∀i∈hs,i<m∧vv all m i=true)→listed.size=all.size→Closed all listed →
   Cc all g n pre hs listed=true→df G nt a.tmps env→a.defers=ds→fB Γ.P all Q' (fun w'=>KB G [] w w') m (hs.length+g') listed a w
 |[],lh,listed,a,env,hh,hl,_,hsz,hcl,hB,hF,hd=>by
  have:lh=[]:=by cases lh with|nil=>rfl|cons=>simp at hl
  subst this;cases hh;rw[List.length_nil,Nat.zero_add];exact hK listed a hB hF hd
 | i :: hs, lh, listed, a, env, hh, hl, hla, hsz, hcl, hB, hF, hd => by
  cases lh with
  |nil=>simp at hl
  |cons o lh =>
  simp only[List.map_cons,List.cons.injEq]at hl;obtain⟨h0,hl'⟩:=hl;simp only[Cc,Bool.and_eq_true]at hB;obtain⟨⟨hr,hf⟩,hB'⟩:=hB;have hr':i∈Region.ready .any all listed:=by simpa using hr
  obtain⟨him,hlate⟩:=hla i (by simp);have hla':∀j∈hs,j<m∧vv all m j=true:=fun j hj=>hla j (by simp[hj])
  rw[show (i::hs).length+g'=(hs.length+g')+1 by simp;omega];cases hh with
  | cons nn hg hdst ht hfree hq hc hh =>
   obtain⟨u,hu,hrun⟩:=sM (ws:=[]) rfl hfree hW hF hq hc;have rc:=AJ hms hsel hQ hW hK hs lh (listed.setIfInBounds i true) (a.put o.dst u) _ hh hl' hla' (by simp[hsz]) (hcl.set hr') hB' (by rw[hdst];exact hF.put ht hu) (bZ a _ u hd);simp only[vv,h0,Bool.or_eq_true]at hlate;rcases hlate with hm|hlate
   ·have hval:∃x,o.op = .move x:=by
     cases ho:o.op<;>rw[ho]at hm<;>simp[Ep]at hm;exact⟨_,rfl⟩
    obtain⟨x,hx⟩:=hval;have hmv:∀w',(execOp a.eval o).run Γ.P w' = .ok (.value (a.eval x)) w':=fun w'=>by unfold execOp;simp[hx]
    have heq:u=a.eval x:=by
     have:=hrun w (fun b _ _=>rfl);rw[hmv]at this;simpa using this.symm
    exact fF (Si:=fun _=>True) h0 him hms (Region.noSelect_spec hsel) hQ (fun _ _=>trivial) (.inl fun _=>trivial) _ listed a w hsz hcl (Region.free_spec h0 hf) hr'
     (.inl ⟨ba hg,fun w' _=>by rw[heq];exact hmv w'⟩) trivial (fun _ b _ _=>rfl) rc
   ·refine fF (Si:=fun w'=>KB G [] w w') h0 him hms (Region.noSelect_spec hsel) hQ (fun _ h=>h) (.inr fun j hj hjs=>?_) _ listed a w hsz hcl (Region.free_spec h0 hf) hr'
     (.inl ⟨ba hg,fun w' hb=>hrun w' hb⟩) (fun b _ _=>rfl) (fun _ b _ _=>rfl) rc
    have:=List.all_eq_true.1 hlate j (by simpa using hjs);simp only[Bool.or_eq_true,decide_eq_true_eq]at this;rcases this with h|h
    ·omega
    ·exact h
  | consX hg hdst ht hx hh =>
   obtain⟨u,hu,hrun⟩:=hx G a w hW hF;have rc:=AJ hms hsel hQ hW hK hs lh (listed.setIfInBounds i true) (a.put o.dst u) _ hh hl' hla' (by simp[hsz]) (hcl.set hr') hB' (by rw[hdst];exact hF.put ht hu) (bZ a _ u hd);exact fF (Si:=fun _=>True) h0 him hms (Region.noSelect_spec hsel) hQ (fun _ _=>trivial) (.inl fun _=>trivial) _ listed a w hsz hcl (Region.free_spec h0 hf) hr'
    (.inl ⟨ba hg,fun w' _=>hrun w'⟩) trivial (fun _ b _ _=>rfl) rc
def PGo(Γ:Ctx)(nt n0:Nat)(all:Array Oper)(pre:List Nat)(lpost:List Oper)(k:List It)(Q:Post)(env:Env)(H:List aN):Prop :=
 ∀G0 G a w (w0:World) (GK:aO),GLe n0 G0 G→n0≤H.length→df G nt a.tmps env→a.defers=[]→bM Γ.gl G H w→w0.heap.size≤w.heap.size→(∀b,b<w0.heap.size→w.heap[b]?=w0.heap[b]?) →
  ER Γ.P all (aZ Γ.P (Conc Γ nt n0 G0 Q) k) (fun w'=>KB GK [] w0 w') pre (wpList Γ.P all (aZ Γ.P (Conc Γ nt n0 G0 Q) k) lpost) a w
theorem PGo.nil{all:Array Oper}{lpost:List Oper}(h:aa Γ nt n0 (.ops all lpost::k) Q env H):PGo Γ nt n0 all [] lpost k Q env H :=
 fun G0 G a w w0 GK h0 hl hF hd hW _ _=>by
  have:=h G0 G a w h0 hl hF hd hW;simpa only [aZ,ER]using this
theorem PGo.call{all:Array Oper}{i:Nat}{pre:List Nat}{lpost:List Oper}{o:Oper}{t f:Nat}{args:List AV}{X r':AV}{Y H':List aN}(hR:ACalls Γ f args [] (fun r H=>r=X∧H=Y))(ho:all[i]?=some o)(hg:o.guard=none)(hd:o.dst=some t)(ht:Nat.ble (t+1) nt=true)
  (hcall:eU Γ env o.op=some (f,AV.jy [] args)) (hab:AV.dF 0 args=true) (hr:r'=AV.ren (names [] H.length Y.length) X) (hH:H'=iw [] (Y.map (aN.ren (names [] H.length Y.length))) H)
  (h:PGo Γ nt n0 all pre lpost k Q ((t,r')::env) H'):PGo Γ nt n0 all (i::pre) lpost k Q env H :=
 fun G0 G a w w0 GK h0 hl hF hdf hW hsz hkb=>by
  obtain⟨vs,hA,hrun⟩:=ll hW hF hcall hR.1;have hp:mi [] H=some (([]:List aN).map (aN.ren [])):=rfl;have hWc:=hW.callee (ρ:=[]) (Hc:=[]) (by simp) hp rfl;have hAc:jZ (G.callee w H []) vs args:=by
   rw[dV]at hA;refine⟨by simpa using hA.1,fun i c hc=>?_⟩;exact bA.rE (G:=G) (G':=G.callee w H []) (dR.refl G.imm) (fun i id h=>gP h) (fun i id n h=>iI h) c _ (eY hab hc) (hA.2 i _ (by rw[List.getElem?_map,hc];rfl))
  have hcalls:=hR.2 _ w vs hWc hAc;refine⟨o,ho,hg,?_⟩;unfold Oper.wp;rw[hrun w];refine hcalls.mono ?_;rintro e w' ⟨v,r,Hc',Gc',rfl,⟨rfl,rfl⟩,hlen',hle,hv,hWc'⟩;obtain⟨b1,b2,b3,b4,b5⟩:=hW.back (by simp) (by simp) rfl hlen' hle hWc';have hbase:Gc'.base=w:=hle.base;have hkb':∀b,b<w.heap.size→w'.heap[b]?=w.heap[b]?:=fun b hb=>by
   have:=(hWc'.old b (by rw[hbase];exact hb) (fun hn=>by
    rw[hle.own0]at hn;obtain⟨id,o',hm,_⟩:=hn
    simp at hm)).1
   rwa [hbase]at this
  have hsz':w.heap.size≤w'.heap.size:=by have:=hWc'.size;rwa [hbase]at this
  have hk2:∀b,b<w0.heap.size→w'.heap[b]?=w0.heap[b]?:=fun b hb=>(hkb' b (by omega)).trans (hkb b hb)
  have hF':df (G.back Gc' (names [] H.length Hc'.length)) nt (a.put (some t) v).tmps ((t,r')::env):=by
   rw[hr];exact (hF.up b1 hW.lim).put ht (hv.ren b3 b4 b5)
  rw[←hH]at b2;have hlH:H.length≤H'.length:=by
   rw[hH,ik (by simp)];simp
  have:=h G0 _ (a.put (some t) v) w' w0 GK (h0.trans (b1.weaken hl)) (by omega) hF' (by simp[Act.put,hdf]) b2 (by omega) hk2;simp only[hd];exact⟨fun b hb _=>hk2 b hb,this⟩
theorem zi{α:Type}(l:List α):∀hs:List Nat,(∀i∈hs,i<l.length)→hs.map (l.toArray[·]?)=(hs.filterMap fun i=>l[i]?).map some
 |[],_=>rfl
 |i::r,h=>by
  have hi:=h i (by simp);have ih:=zi l r fun j hj=>h j (by simp[hj])
  simp only[List.map_cons,List.filterMap_cons,List.getElem?_eq_getElem hi,ih];simp[hi]
theorem aa.KV{id:Nat}{all:Array Oper}(l:List Oper)(hs pre:List Nat)(n:Nat){lh lpost:List Oper}{env1:Env}(hnp:fN Q)(hl:all=l.toArray)(hlh:(hs.filterMap fun i=>l[i]?)=lh)(hlp:l.drop n=lpost)
  (hB:(Region.noSelect l.toArray&&decide (n≤l.length)&&decide (hs.length+(pre.length+(l.length-n))=l.length)&&(hs.all fun i=>decide (i<n)&&vv l.toArray n i)&&Cc l.toArray (l.length-n) n pre hs (Array.replicate l.toArray.size false))=true)
  (hh:dJ Γ nt H [] env lh env1) (h:PGo Γ nt n0 all pre lpost k Q env1 H):aa Γ nt n0 (.code (.region id all true)::k) Q env H :=
 fun G0 G a w h0 hln hF hd hW=>by
  subst hl;subst hlp;subst hlh;have hW':bM Γ.gl G H { w with drawn:=w.drawn+1 }:=hW.same rfl rfl rfl rfl;simp only[Bool.and_eq_true,decide_eq_true_eq]at hB;obtain⟨⟨⟨⟨hsel,hn⟩,hcnt⟩,hlt⟩,hpeel⟩:=hB;have hlh:hs.map (l.toArray[·]?)=(hs.filterMap fun i=>l[i]?).map some:=zi l hs fun i hi=>by
   have:=List.all_eq_true.1 hlt i hi;simp only[Bool.and_eq_true,decide_eq_true_eq]at this;omega
  have hdl:(l.drop n).length=l.length-n:=List.length_drop;have hpan:∀c a w,¬aZ Γ.P (Conc Γ nt n0 G0 Q) k (.panic c) a w:=fun c a w hq=>by
   rw[dO]at hq;obtain⟨_,env,H,_,_,_,_,_,hq⟩:=hq;exact hnp c env H hq
  simp only[aZ];refine wp_region_any Γ.mixed (lZ (S:=fun w'=>KB G [] { w with drawn:=w.drawn+1 } w') (m:=n) _ _ _ _ ?_);have tail:∀listed a',yE l.toArray (l.length-n) n pre listed=true→df G nt a'.tmps env1→a'.defers=[] →
    fB Γ.P l.toArray (aZ Γ.P (Conc Γ nt n0 G0 Q) k) (fun w'=>KB G [] { w with drawn:=w.drawn+1 } w') n (pre.length+(l.length-n)) listed a' { w with drawn:=w.drawn+1 }:=fun listed a' hB hF' hd'=>by
   have hn':=h G0 G a' { w with drawn:=w.drawn+1 } { w with drawn:=w.drawn+1 } G h0 hln hF' hd' hW' (Nat.le_refl _) (fun _ _=>rfl);rw[←hdl]at hB ⊢;exact wC (Nat.le_refl n) (fun j=>by simp[List.getElem?_drop]) pre listed a' _ hB hn'
  have:=AJ (Γ:=Γ) (g:=l.length-n) (g':=pre.length+(l.length-n)) (n:=n) (m:=n) (pre:=pre) (by simpa using hn) hsel hpan hW' tail hs _ (Array.replicate l.toArray.size false) a env hh hlh
   (fun i hi => by
    have:=List.all_eq_true.1 hlt i hi
    simpa using this) (by simp)
   (fun j oj _ hl2=>by rw[getD_replicate_false]at hl2;cases hl2) hpeel hF hd
  rw[hcnt]at this;simpa using this
theorem aa.oP{id:Nat}{all:Array Oper}(l:List Oper)(hs:List Nat)(pre:List Nat){n:Nat}{lh lpost:List Oper}{env1:Env}(h:PGo Γ nt n0 all pre lpost k Q env1 H)(hnp:fN Q:=by exact fun _ _ _ h=>h)(hl:all=l.toArray:=by rfl)(hlh:(hs.filterMap fun i=>l[i]?)=lh:=by rfl)(hlp:l.drop n=lpost:=by rfl)(hB:(Region.noSelect l.toArray&&decide (n≤l.length)&&decide (hs.length+(pre.length+(l.length-n))=l.length)&&(hs.all fun i=>decide (i<n)&&vv l.toArray n i)&&Cc l.toArray (l.length-n) n pre hs (Array.replicate l.toArray.size false))=true:=by decide +kernel)(hh:dJ Γ nt H [] env lh env1:=by (repeat (first|exact dJ.nil _|(apply dJ.cons true;(iterate 5 rfl);first|exact True.intro|omega)))):aa Γ nt n0 (.code (.region id all true)::k) Q env H:=aa.KV l hs pre n hnp hl hlh hlp hB hh h
end
end
section
open Go Go.RowKit
def AV.yx:AV→D | .d x=>x|_ => .top
section
variable {Γ:Ctx}{nt n0:Nat}{k:List It}{Q:Post}{env:Env}{H:List aN}{G:aO}{w:World}
theorem Bx{v:Value}{c:AV}(h:bA G v c)(h1:c.one=true):c.yx.one=true∧DRel G.imm v c.yx:=by
 have hc:=h.oneCell h1;cases h with
 |d _ x hd=>exact⟨h1,hd⟩
 |_=>exact⟨rfl, .top _ hc⟩
theorem bM.seen(hW:bM Γ.gl G H w){id:Nat}{cs:List AV}(hid:H[id]?=some (.cells cs)):∃b Gc,G.loc id=some b∧bM Γ.gl Gc [] w∧dR G.imm Gc.imm∧Gc.base=w∧(∀b,¬Gc.own0 b)∧DRel Gc.imm (.pointer (some ⟨b,0,none⟩)) (.iptr (cs.map AV.yx)):=by
 obtain⟨b,cur,t,a1,a2,a3,a4,a5,a6⟩:=hW.obj id _ hid;have hIm:dR G.imm (fun b'=>if b'=b then cur.toList else G.imm b'):=fun b'=>by
  simp only;split
  ·rename_i hb;rw[hb,a6];exact List.nil_prefix
  ·exact List.prefix_refl _
 refine⟨b,{ base:=w,imm0:=fun b'=>if b'=b then cur.toList else G.imm b',own0:=fun _=>False,imm:=fun b'=>if b'=b then cur.toList else G.imm b',loc:=fun _=>none,fl:=fun _ _=>none },a1,?_,hIm,rfl,fun _ h=>h,?_⟩
 ·refine⟨rfl,rfl,rfl,Nat.le_refl _,fun b _ _=>⟨rfl,rfl⟩,fun b' i hi=>?_,fun id o h=>by simp at h,fun id o b h=>by simp at h,fun id o id' o' b h=>by simp at h,fun id _=>⟨rfl,fun _=>rfl⟩,fun g cs hg=>(hW.glob g cs hg).mono hIm⟩;simp only at hi ⊢;by_cases hb:b'=b
  ·subst hb;rw[if_pos rfl]at hi ⊢;rw[cell_of_row w b' i cur t (0,0) a2];have:i<cur.size:=by simpa using hi
   simp[gv,List.getD,this]
  ·rw[if_neg hb]at hi ⊢;exact hW.imm b' i hi
 ·refine .iptr b 0 _ (by simp;omega) (fun c hc=>?_) (fun j c hc=>?_)
  ·obtain⟨c',h1,rfl⟩:=List.mem_map.1 hc;obtain⟨i,hi⟩:=List.getElem?_of_mem h1;exact (Bx (a5 i c' hi) (a4 c' h1)).1
  ·rw[List.getElem?_map]at hc;cases hq:cs[j]? with
   |none=>rw[hq]at hc;simp at hc
   |some c' =>
    rw[hq]at hc;simp only[Option.map_some,Option.some.injEq]at hc;subst hc;have:=(Bx (a5 j c' hq) (a4 c' (List.mem_of_getElem? hq))).2;simp only[if_true,Nat.zero_add];exact this.mono hIm
theorem aa.PE{all:Array Oper}{o:Oper}{l:List Oper}{t f id:Nat}{cs rest:List AV}{cs':List D}{X:AV}{v:Value}(hR:ACalls Γ f (.d (.iptr cs')::rest) [] (fun r H=>r=X∧H=[]))(hg:o.guard=none)(hd:o.dst=some t)(ht:Nat.ble (t+1) nt=true)
  (hcall:eU Γ env o.op=some (f, .ptr id 0::rest)) (hh:hget H id=some (.cells cs)) (hcs:cs.map AV.yx=cs') (hab:AV.dF 0 rest=true) (hb:X.bnd 0=true) (hv:X.iQ=some v) (h:aa Γ nt n0 (.qops all l::k) Q ((t,X)::env) H):aa Γ nt n0 (.qops all (o::l)::k) Q env H :=
 fun G0 G a w h0 hl hF hdf hW=>by
  subst hcs;rw[dA]at hh;obtain⟨vs,hA,hrun⟩:=ll hW hF hcall hR.1;have calls:∀w1,Below w.heap.size w w1→Calls Γ.P f vs w1 fun e w'=>∃u G',e = .returned u∧bA G' u X∧Below w1.heap.size w1 w':=fun w1 hb1=>by
   have hW1:=hW.below hb1;obtain⟨b,Gc,s1,s2,s3,s4,s5,s6⟩:=hW1.seen hh;have hAc:jZ Gc vs (.d (.iptr (cs.map AV.yx))::rest):=⟨by simpa using hA.1,fun i c hc=>by
    cases i with
    | zero =>
     simp only[List.getElem?_cons_zero,Option.some.injEq]at hc;subst hc;have h1:=hA.2 0 (.ptr id 0) rfl;generalize gv vs.toList 0=u at h1;cases h1 with
     |ptr b' _ _ hb' =>
      rw[s1]at hb';cases hb';exact .d _ _ s6
    |succ i =>
     have hc':rest[i]?=some c:=by simpa using hc
     exact (hA.2 (i+1) c (by simpa using hc)).mono' (k:=0) (G':=Gc) s3 (fun id b h _=>by omega) (fun id n v h _=>by omega) (eY hab hc')⟩
   refine (hR.2 _ w1 vs s2 hAc).mono ?_;rintro e w' ⟨u,r',H',G',rfl,⟨rfl,rfl⟩,_,hle,hu,hW'⟩;refine⟨u,G',rfl,hu,?_⟩;have b0:G'.base=w1:=hle.base.trans s4;have o0:∀b,¬G'.own0 b:=fun b h=>by rw[hle.own0]at h;exact s5 b h
   exact⟨by rw[hW'.os,b0],by rw[hW'.tape,b0],by rw[hW'.output,b0],by have:=hW'.size;rwa [b0]at this,fun b hb=>by have:=(hW'.old b (by rw[b0];exact hb) (o0 b)).1;rwa [b0]at this⟩
  have hvr:bA G v X:=by
   obtain⟨e,w',fr,⟨u,G',rfl,hu,_⟩,_⟩:=calls w (Below.refl _ _) [];have:=AV.val_ok hu hv;subst this;clear hrun calls;exact AV.ow hv
  have hn:=h G0 G (a.put (some t) v) w h0 hl (hF.put ht hvr) (by simp[Act.put,hdf]) hW;simp only[aZ]at hn ⊢;unfold wpQuiet;rw[if_pos (ba hg)];refine⟨v,fun w1 hb1=>?_,by rw[hd];exact hn⟩;unfold Oper.quietAt;rw[hrun w1];refine⟨rfl,(calls w1 hb1).mono ?_⟩;rintro e w' ⟨u,G',rfl,hu,hb'⟩;refine⟨by rw[AV.val_ok hu hv],?_⟩;exact hb1.trans (hb'.mono hb1.size)
theorem aa.iB{all:Array Oper}{o:Oper}{l:List Oper}{t f id:Nat}{cs rest:List AV}{cs':List D}{X:AV}{v:Value}(hR:ACalls Γ f (.d (.iptr cs')::rest) [] (fun r H=>r=X∧H=[]))(h:aa Γ nt n0 (.qops all l::k) Q ((t,X)::env) H)(hg:o.guard=none:=by rfl)(hd:o.dst=some t:=by rfl)(ht:Nat.ble (t+1) nt=true:=by rfl)(hcall:eU Γ env o.op=some (f, .ptr id 0::rest):=by rfl)(hh:hget H id=some (.cells cs):=by rfl)(hcs:cs.map AV.yx=cs':=by rfl)(hab:AV.dF 0 rest=true:=by rfl)(hb:X.bnd 0=true:=by rfl)(hv:X.iQ=some v:=by rfl):aa Γ nt n0 (.qops all (o::l)::k) Q env H:=aa.PE hR hg hd ht hcall hh hcs hab hb hv h
end
end
section
open Go Go.RowKit
def uy(ops:Array Oper):Nat→Array Bool→List (List Nat)
 |0,_=>[[]]
 |f+1,listed=>match Region.ready .any ops listed with
  |[]=>[[]]
  |j::r=>(j::r).flatMap fun i=>(uy ops f (listed.setIfInBounds i true)).map (i::·)
theorem go_mem{ops:Array Oper}:∀(f t:Nat) (listed:Array Bool),Region.linearise.go .any ops f t listed []∈uy ops f listed
 |0,t,listed=>by simp[Region.linearise.go,uy]
 | f + 1, t, listed => by
  simp only[Region.linearise.go]
  change (match (Region.ready .any ops listed)[t%(Region.ready .any ops listed).length]? with
   |some i=>Region.linearise.go .any ops f (t/(Region.ready .any ops listed).length) (listed.setIfInBounds i true) [i]
   |none=>[].reverse)∈_
  cases hi:(Region.ready .any ops listed)[t%(Region.ready .any ops listed).length]? with
  | none =>
   have hnil:Region.ready .any ops listed=[]:=by
    cases hr:Region.ready .any ops listed with
    |nil=>rfl
    |cons x xs =>
     rw[hr]at hi;have hlt:t%(x::xs).length<(x::xs).length:=Nat.mod_lt _ (by simp);simp at hi;simp at hlt;omega
   simp[uy,hnil]
  | some i =>
   have hm:=List.mem_of_getElem? hi;simp only[];rw[linearise_go_acc,List.reverse_singleton,List.singleton_append];generalize t/(Region.ready .any ops listed).length=t';unfold uy;cases hr:Region.ready .any ops listed with
   |nil=>rw[hr]at hm;cases hm
   |cons x xs =>
    rw[hr]at hm;exact List.mem_flatMap.2 ⟨i,hm,List.mem_map.2 ⟨_,go_mem f t' _,rfl⟩⟩
section
variable {Γ:Ctx}{nt n0:Nat}{k:List It}{Q:Post}{env:Env}{H:List aN}
def Bs(Γ:Ctx)(nt n0:Nat)(all:Array Oper)(l:List Oper)(k:List It)(Q:Post)(env:Env)(H:List aN):List (List Nat)→Prop
 |[]=>True
 |s::r=>aa Γ nt n0 (.ops all (s.filterMap fun i=>l[i]?)::k) Q env H∧Bs Γ nt n0 all l k Q env H r
theorem Bs.mem{all:Array Oper}{l:List Oper}:∀{L:List (List Nat)} {s:List Nat},Bs Γ nt n0 all l k Q env H L→s∈L→aa Γ nt n0 (.ops all (s.filterMap fun i=>l[i]?)::k) Q env H
 |x::r,s,h,hm=>by
  rcases List.mem_cons.1 hm with rfl|hm
  ·exact h.1
  ·exact Bs.mem h.2 hm
theorem wy{P:Program}{Q':Exit→Act→World→Prop}(l:List Oper):∀s:List Nat,wpOps P l.toArray Q' s=wpList P l.toArray Q' (s.filterMap fun i=>l[i]?)
 |[]=>rfl
 | i :: s => by
  funext a w
  have ih:=wy (P:=P) (Q':=Q') l s;cases h:l[i]? with
  |none =>
   rw[List.filterMap_cons_none h,←ih];simp[wpOps,h]
  |some o =>
   rw[List.filterMap_cons_some h];unfold wpList;rw[←ih];simp[wpOps,h]
theorem aa.vY{id:Nat}{all:Array Oper}(l:List Oper)(L:List (List Nat))(hl:all=l.toArray)(hL:uy l.toArray l.length (Array.replicate l.length false)=L)(h:Bs Γ nt n0 all l k Q env H L):
  aa Γ nt n0 (.code (.region id all true)::k) Q env H :=
 fun G0 G a w h0 hln hF hd hW=>by
  subst hl;have hW':bM Γ.gl G H { w with drawn:=w.drawn+1 }:=hW.same rfl rfl rfl rfl;simp only[aZ];refine wp_region_draw fun t=>?_
  simp only[Region.schedule,Γ.mixed,Bool.true_or,if_true];have hm:=go_mem (ops:=l.toArray) l.toArray.size t (Array.replicate l.toArray.size false);rw[show l.toArray.size=l.length by simp,hL]at hm;have h1:=(h.mem hm) G0 G a { w with drawn:=w.drawn+1 } h0 hln hF hd hW';simp only[aZ]at h1;rw[←wy]at h1;unfold Region.linearise;rw[show l.toArray.size=l.length by simp];exact h1
end
end
section
open Go Go.RowKit
theorem DRel.Pm{imm:Nat→List Value}{v:Value}{sz:Nat}{es:List D}(h:DRel imm v (.sl sz es)):∃a n c,v = .slice a n c∧(0<es.length→a≠none):=by
 cases h with
 |sl0 a cap sz=>exact⟨a,0,cap,rfl,fun h=>absurd h (by simp)⟩
 |sl b o cap sz es hne hcap hsz hone hin h=>exact⟨_,_,_,rfl,fun _ h=>by cases h⟩
theorem DRel.JD{imm:Nat→List Value}{v:Value}(h:DRel imm v .aU):v = .slice none 0 0:=by cases h;rfl
section
variable {Γ:Ctx}{nt n0:Nat}{k:List It}{Q:Post}{env:Env}{H:List aN}
def eqF:BinOp→Bool→Option Bool
 | .eql,b=>some b
 | .neq,b=>some (!b)
 |_,_=>none
theorem Jc{op:BinOp}{T e:Nat}{ti:TI}{x y:Operand}{b r:Bool}{a:Option Addr}{n c:Nat}(hT:aY Γ.T T=some ti)(hsh:ti.sh = .slice e)(hr:a.isNone=b)(ho:eqF op b=some r)(w:World):
  (do eqGuard op T x y (.slice a n c) (.slice none 0 0);binOp op T (.slice a n c) (.slice none 0 0):Sem Value).run Γ.P w = .ok (.bool r) w:=by
 obtain⟨f⟩:=Γ.ty hT;have hu:=cQ f hsh;have hg:∀op,(eqGuard op T x y (.slice a n c) (.slice none 0 0)).run Γ.P w = .ok () w:=fun op=>by unfold eqGuard;cases op<;>simp
 rw[Sem.run_bind,hg];subst hr;cases op<;>cases ho
 ·simp only[Result.andThen_ok];exact Lib.run_eql_slice_nil w T e a n c 0 0 hu
 ·simp only[Result.andThen_ok];exact run_neq_slice_nil w T e a n c hu
theorem aa.S0{all:Array Oper}{o:Oper}{l:List Oper}{t:Nat}{op:BinOp}{T T' e sz:Nat}{es:List D}{ti:TI}{x y:Operand}{r:Bool}(hop:o.op = .binOp op T x y T')(hg:o.guard=none)(hd:o.dst=some t)(ht:Nat.ble (t+1) nt=true)
  (hx:ev Γ env x = .d (.sl sz es)) (hy:ev Γ env y = .d .aU) (hT:aY Γ.T T=some ti) (hsh:ti.sh = .slice e) (ho:eqF op false=some r)
  (h:∀b:Bool,(b=!r→es=[])→aa Γ nt n0 (.ops all l::k) Q ((t, .d (.bool b))::env) H):aa Γ nt n0 (.ops all (o::l)::k) Q env H :=
 fun G0 G a w h0 hl hF hdf hW=>by
  have e1:=bN hW hF x;have e2:=bN hW hF y;rw[hx]at e1;rw[hy]at e2;generalize hvx:a.eval x=vx at e1;generalize hvy:a.eval y=vy at e2;cases e1 with
  |d _ _ e1 =>
  cases e2 with
  |d _ _ e2 =>
  obtain⟨p,n,c,e3,hp⟩:=e1.Pm;have e4:=e2.JD;have ho2:∀b,∃r',eqF op b=some r'∧(r'=!r→b=true):=by
   intro b;cases op<;>first|(cases ho;cases b<;>exact⟨_,rfl,by decide⟩)|cases ho
  obtain⟨r',hr',hrr⟩:=ho2 p.isNone;have run:=Jc (x:=x) (y:=y) (n:=n) (c:=c) hT hsh rfl hr' w;have hes:r'=!r→es=[]:=fun hh=>by
   have:=hrr hh;cases p with
   |some _=>cases this
   |none =>
    cases es with
    |nil=>rfl
    |cons z zs=>exact absurd rfl (hp (by simp))
  have hn:=h r' hes G0 G (a.put (some t) (.bool r')) w h0 hl (hF.put ht (.d _ _ (.bool _))) (by simp[Act.put,hdf]) hW;simp only[aZ]at hn ⊢;unfold wpList;rw[if_pos (ba hg)];refine .inl ?_;unfold Oper.wp;have hx':(execOp a.eval o).run Γ.P w = .ok (.value (.bool r')) w:=by
   unfold execOp;simp only[hop,hvx,hvy,e3,e4,Sem.run_bind]at run ⊢;rw[run];rfl
  rw[hx'];simp only[Oper.upon,hd];exact hn
theorem aa.PS{all:Array Oper}{o:Oper}{l:List Oper}{t:Nat}{op:BinOp}{T T' e sz:Nat}{es:List D}{ti:TI}{x y:Operand}{r:Bool}(h:∀b:Bool,(b=!r→es=[])→aa Γ nt n0 (.ops all l::k) Q ((t, .d (.bool b))::env) H)(hop:o.op = .binOp op T x y T':=by rfl)(hg:o.guard=none:=by rfl)(hd:o.dst=some t:=by rfl)(ht:Nat.ble (t+1) nt=true:=by rfl)(hx:ev Γ env x = .d (.sl sz es):=by rfl)(hy:ev Γ env y = .d .aU:=by rfl)(hT:aY Γ.T T=some ti:=by rfl)(hsh:ti.sh = .slice e:=by rfl)(ho:eqF op false=some r:=by rfl):aa Γ nt n0 (.ops all (o::l)::k) Q env H:=aa.S0 hop hg hd ht hx hy hT hsh ho h
end
section
open Go Go.RowKit
variable {Γ:Ctx}{nt n0:Nat}{k:List It}{Q:Post}{env:Env}{H:List aN}{G:aO}{w:World}
theorem aa.IR{all:Array Oper}{o:Oper}{l:List Oper}{T id n e sz i off:Nat}{x y:Operand}{ti:TI}{es vs:List D}{d:D}{v:AV}{bb:Prop}(h:bb)(hop:o.op = .store T x y:=by rfl)(hg:o.guard=none:=by rfl)(hdst:o.dst=none:=by rfl)(hT:aY Γ.T T=some ti:=by rfl)(hx:ev Γ env x = .eptr id n sz i off:=by rfl)(hy':(ev Γ env y).frc=some (True,v):=by rfl)(hvs:wG v.cells=some vs:=by rfl)(hh:hget H id=some (.arr e sz es):=by rfl)(hs:Nat.beq vs.length ti.size=true:=by rfl)(hp:Nat.ble 1 ti.size=true:=by rfl)(ho:iK v.cells=true:=by rfl)(hn:es.length=n:=by (first|rfl|(simp only[List.length_append,List.length_map,List.length_set,List.length_replicate,List.length_cons,List.length_nil];omega)))(hd:es[i]?=some d:=by rfl)(hle:off+vs.length≤d.cells.length:=by (first|decide|exact Nat.le_of_ble_eq_true rfl|(dsimp only;omega)|decide +kernel))(hbb:bb→aa Γ nt n0 (.ops all l::k) Q env (H.set id (.arr e sz (es.set i (vG d off vs)))):=by intro k;simp only[List.set_cons_zero,List.set_cons_succ];exact k):aa Γ nt n0 (.ops all (o::l)::k) Q env H:=aa.wN hop hg hdst hT hx hy' hvs hh hs hp ho hn hd hle (hbb h)
end
section
open Go Go.RowKit
variable {Γ:Ctx}{nt n0:Nat}{k:List It}{Q:Post}{env:Env}{H:List aN}
theorem aa.BO{all:Array Oper}{o:Oper}{l:List Oper}{t T:Nat}{ti:TI}{x:Operand}{s:List UInt8}{bb:Prop}(h:bb)(hop:o.op = .range T x:=by rfl)(hg:o.guard=none:=by rfl)(hd:o.dst=some t:=by rfl)(ht:Nat.ble (t+1) nt=true:=by rfl)(hT:aY Γ.T T=some ti:=by rfl)(hsh:ti.sh = .str:=by rfl)(hx:ev Γ env x = .d (.str s):=by rfl)(hbb:bb→aa Γ nt n0 (.ops all l::k) Q ((t, .it H.length)::env) (H++[.siter ⟨s.toArray⟩ 0]):=by intro k;simp only[List.length_cons,List.length_nil,Nat.reduceAdd,List.cons_append,List.nil_append];exact k):aa Γ nt n0 (.ops all (o::l)::k) Q env H:=aa.Py hop hg hd ht hT hsh hx (hbb h)
end
section
open Go Go.RowKit
variable {Γ:Ctx}{nt n0:Nat}{k:List It}{Q:Post}{env:Env}{H:List aN}{G:aO}{w:World}
theorem aa.CL(t:Nat)(e:Nat)(sz:Nat){bb:Prop}(h:bb)(ht:env.get t = .d .aU:=by rfl)(hbb:bb→aa Γ nt n0 k Q ((t, .ms H.length 0)::env) (H++[.arr e sz []]):=by intro k;simp only[List.length_cons,List.length_nil,Nat.reduceAdd,List.cons_append,List.nil_append];exact k):aa Γ nt n0 k Q env H:=aa.Qf t e sz ht (hbb h)
theorem aa.uG(t:Nat){id e sz n:Nat}{es:List D}{bb:Prop}(h:bb)(ht:env.get t = .ms id n:=by rfl)(hh:hget H id=some (.arr e sz es):=by rfl)(hn:es.length=n:=by (first|rfl|(simp only[List.length_append,List.length_map,List.length_set,List.length_replicate,List.length_cons,List.length_nil];omega)))(hbb:bb→aa Γ nt n0 k Q ((t, .own sz es id)::env) (H.set id (.front e sz es.length)):=by intro k;simp only[List.set_cons_zero,List.set_cons_succ];exact k):aa Γ nt n0 k Q env H:=aa.AQ t ht hh hn (hbb h)
theorem aa.CM(id:Nat)(i:Nat)(e:Nat)(sz:Nat){cs:List AV}{bb:Prop}(h:bb)(hh:hget H id=some (.cells cs):=by rfl)(hc:cs[i]?=some (.d .aU):=by rfl)(hbb:bb→aa Γ nt n0 k Q env (H.set id (.cells (cs.set i (.ms H.length 0)))++[.arr e sz []]):=by intro k;simp only[List.set_cons_zero,List.set_cons_succ,List.length_cons,List.length_nil,Nat.reduceAdd,List.cons_append,List.nil_append];exact k):aa Γ nt n0 k Q env H:=aa.rT id i e sz hh hc (hbb h)
end
section
open Go Go.RowKit
variable {Γ:Ctx}{G:aO}{H:List aN}{w:World}{nt n0:Nat}{k:List It}{Q:Post}{env:Env}
theorem aa.xN{all:Array Oper}{o:Oper}{l:List Oper}{t f:Nat}{args0 args cargs:List AV}{X:AV}{Hc Y:List aN}(ρ:List Nat)(hR:ACalls Γ f cargs Hc (fun r H=>r=X∧H=Y)){bb:Prop}(h:bb)(hg:o.guard=none:=by rfl)(hd:o.dst=some t:=by rfl)(ht:Nat.ble (t+1) nt=true:=by rfl)(hcall:eU Γ env o.op=some (f,args0):=by rfl)(hw:args0.map fgt=args:=by rfl)(hargs:args=AV.jy ρ cargs:=by rfl)(hab:AV.dF ρ.length cargs=true:=by rfl)(hn:ρ.Nodup:=by decide)(hp:mi ρ H=some (Hc.map (aN.ren ρ)):=by rfl)(hb:dZ ρ.length Hc=true:=by rfl)(hbb:bb→aa Γ nt n0 (.ops all l::k) Q ((t,AV.ren (names ρ H.length Y.length) X)::env) (iw ρ (Y.map (aN.ren (names ρ H.length Y.length))) H):=by intro k;simp only[ny,nh,Nat.reduceAdd,Nat.reduceSub];exact k):aa Γ nt n0 (.ops all (o::l)::k) Q env H:=aa.QQ ρ hR hg hd ht hcall hw hargs hab hn hp hb (hbb h)
end
end
end Go.Proofs.YtbpednchkndocaaGreatDoor.Av
