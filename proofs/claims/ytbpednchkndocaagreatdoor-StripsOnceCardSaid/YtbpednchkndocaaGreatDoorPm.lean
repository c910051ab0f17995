/- Maps with keys that are whole numbers, texts or bools. Maps: writing. -/
import Derived.Test.YtbpednchkndocaaGreatDoorPc
import Derived.MapKept
set_option linter.unusedVariables false
set_option linter.unusedSimpArgs false
set_option maxRecDepth 100000
set_option maxHeartbeats 64000000
namespace Go.Proofs.YtbpednchkndocaaGreatDoor.Av
section
open Go Go.RowKit
def Ht:D→D→Option Bool
 | .int j a, .int k b=>bif decide (j=k) then some (decide (a=b)) else none
 | .str a, .str b=>some (decide (a=b))
 | .bool a, .bool b=>some (decide (a=b))
 |_,_=>none
def jq(k:D):List (D×D)→Nat→Option (Option (Nat×D))
 |[],_=>some none
 |(k',v)::r,i=>match Ht k k' with
  |some true=>some (some (i,v))
  |some false=>jq k r (i+1)
  |none=>none
def jL:Sh→D→Bool
 | .int k, .int j _=>decide (j=k)
 | .str, .str _=>true
 | .bool, .bool _=>true
 |_,_=>false
def jC(es:List (D×D))(n:Nat)(v:D):List (D×D):=es.modify n fun p=>(p.1,v)
def zeroV(P:Program)(t:TypeId):Option Value:=(P.info? t).bind (·.zero)
section
variable {Γ:Ctx}{G:aO}{H:List aN}{w:World}{nt n0:Nat}{k:List It}{Q:Post}{env:Env}
theorem Nv{imm:Nat→List Value}{d:TypeDesc}{kd kd':D}{u u':Value}{b:Bool}(hk:MapKept.IsKey d u)(hu:DRel imm u kd)(hu':DRel imm u' kd')(h:Ht kd kd'=some b):Instr.sameNow d u u'=some b:=by
 unfold Ht at h;split at h
 ·rename_i j a k c;cases hu;cases hu';by_cases e:j=k
  ·subst e;rw[decide_eq_true rfl,cond_true]at h;cases h;cases d<;>simp[MapKept.IsKey]at hk;subst hk;simp only[Instr.sameNow,if_true];rw[Option.some.injEq,Bool.eq_iff_iff];simp
  ·rw[decide_eq_false e,cond_false]at h;cases h
 ·rename_i a c;cases h;cases hu with|str s=>cases hu' with|str s' =>
  cases d<;>simp[MapKept.IsKey]at hk;simp only[Instr.sameNow,Option.some.injEq,beq_toListBytes,ByteArray.toList_eq,OA]
 ·rename_i a c;cases h;cases hu;cases hu';cases d<;>simp[MapKept.IsKey]at hk;simp only[Instr.sameNow];rw[Option.some.injEq,Bool.eq_iff_iff];simp
 ·cases h
theorem oN{imm:Nat→List Value}{P:Program}{t:Nat}{ti:TI}(f:dQ P t ti){kd:D}{u:Value}(h:jL ti.sh kd=true)(hu:DRel imm u kd):MapKept.IsKey f.d u:=by
 have hs:=f.sh;unfold jL at h;split at h
 ·rename_i hsh;cases hu;rw[hsh]at hs;cases hd:f.d<;>rw[hd]at hs<;>simp[qX]at hs;simp at h;simp[MapKept.IsKey,h,hs]
 ·rename_i hsh;cases hu;rw[hsh]at hs;cases hd:f.d<;>rw[hd]at hs<;>simp[qX]at hs;simp[MapKept.IsKey]
 ·rename_i hsh;cases hu;rw[hsh]at hs;cases hd:f.d<;>rw[hd]at hs<;>simp[qX]at hs;simp[MapKept.IsKey]
 ·cases h
theorem pY{imm:Nat→List Value}{d:TypeDesc}{kd:D}{u:Value}(hk:MapKept.IsKey d u)(hu:DRel imm u kd):∀(es:List (D×D)) (ents:List MapEntry) (i:Nat) (r:Option (Nat×D)),
  ents.length=es.length→(∀(i:Nat) (k v:D),es[i]?=some (k,v)→∃en,ents[i]?=some en∧DRel imm en.key k∧DRel imm en.val v)→jq kd es i=some r →
  ∃r',Instr.findNow d u ents i=some r'∧match r with
   |some (j,v)=>i≤j∧∃v',r'=some (j,v')∧DRel imm v' v∧(∃en,ents[j-i]?=some en∧en.val=v'∧Instr.sameNow d u en.key=some true)∧∃k',es[j-i]?=some (k',v)
   |none=>r'=none
 |[],ents,i,r,hl,hr,h=>by
  have:ents=[]:=List.eq_nil_of_length_eq_zero (by simpa using hl);subst this;simp only[jq,Option.some.injEq]at h;subst h;exact⟨none,rfl,rfl⟩
 |(k',v)::es,[],i,r,hl,hr,h=>by simp at hl
 | (k', v) :: es, en :: ents, i, r, hl, hr, h => by
  obtain⟨en0,e1,e2,e3⟩:=hr 0 k' v rfl;simp at e1;subst e1;simp only[jq]at h;cases hc:Ht kd k' with
  |none=>rw[hc]at h;cases h
  | some b =>
   have hs:=Nv hk hu e2 hc;rw[hc]at h;cases b with
   |true =>
    simp only[Option.some.injEq]at h;subst h;refine⟨some (i,en.val),by simp[Instr.findNow,hs],Nat.le_refl _,en.val,rfl,e3,⟨en,by simp,rfl,hs⟩,k',by simp⟩
   | false =>
    obtain⟨r',r1,r2⟩:=pY hk hu es ents (i+1) r (by simpa using hl) (fun j k v hj=>hr (j+1) k v (by simpa using hj)) h;refine⟨r',by simp[Instr.findNow,hs,r1],?_⟩;cases r with
    |none=>exact r2
    |some jv =>
     obtain⟨j,v2⟩:=jv;obtain⟨a1,v',a2,a3,⟨en',a4,a5⟩,k2,a6⟩:=r2;have e:j-i=(j-(i+1))+1:=by omega
     exact⟨by omega,v',a2,a3,⟨en',by rw[e];simpa using a4,a5⟩,k2,by rw[e];simpa using a6⟩
theorem vK{t kt et:Nat}{ti:TI}(f:dQ Γ.P t ti)(h:ti.sh = .map kt et):Γ.P.underlying t=some (.map kt et):=by
 have:=f.sh;rw[h]at this;cases hd:f.d<;>rw[hd]at this<;>simp[qX]at this;rw[f.und,hd,this.1,this.2]
theorem uz{P:Program}{t:TypeId}{z:Value}(h:zeroV P t=some z)(w:World):(zeroValue t).run P w = .ok z w:=by
 unfold zeroV at h;cases hi:P.info? t with
 |none=>simp[hi]at h
 |some i =>
  simp[hi]at h;simp[zeroValue,typeInfo,hi,h]
def yU(ok:Bool)(z:D):Option (Nat×D)→AV
 |some (_,v)=>bif ok then .cH [.d v, .d (.bool true)] else .d v
 |none=>bif ok then .cH [.d z, .d (.bool false)] else .d z
theorem nG{G:aO}{u v:Value}{a b:AV}(h1:bA G u a)(h2:bA G v b):bA G (.tuple #[u,v]) (.cH [a,b]) :=
 .cH _ _ rfl fun i c hc=>by
  match i,hc with
  |0,hc=>simp at hc;subst hc;exact h1
  |1,hc=>simp at hc;subst hc;exact h2
  |n+2,hc=>simp at hc
theorem oJ{o:Oper}{T kt et id:Nat}{ti tk te:TI}{x y:Operand}{ok:Bool}{es:List (D×D)}{kd:D}{r:Option (Nat×D)}{zv:Value}{v:AV}(hop:o.op = .lookup T x y ok)(hT:aY Γ.T T=some ti)(hsh:ti.sh = .map kt et)
  (hK:aY Γ.T kt=some tk) (hE:aY Γ.T et=some te) (hx:ev Γ env x = .mp id) (hy:ev Γ env y = .d kd) (hh:hget H id=some (.map es)) (hfit:jL tk.sh kd=true) (hz:zeroV Γ.P et=some zv) (hzd:(zD te).iQ=some zv)
  (hf:jq kd es 0=some r) (hv:yU ok (zD te) r=v):eu Γ nt env H o v:=by
 subst hv;intro G a w hW hF;obtain⟨f⟩:=Γ.ty hT;obtain⟨fk⟩:=Γ.ty hK;have hu:=vK f hsh;have hxv:=bN hW hF x;rw[hx]at hxv;have hyv:=bN hW hF y;rw[hy]at hyv;rw[dA]at hh;obtain⟨b,ents,clock,h1,h2,h3,h4,h6,h7,h5⟩:=hW.obj id _ hh;generalize hxe:a.eval x=xv at hxv;generalize hye:a.eval y=yv at hyv;cases hxv with
 | mp b' _ hb' =>
  rw[h1]at hb';cases hb';cases hyv with
  | d _ _ hyd =>
   have hkey:=oN fk hfit hyd
   obtain⟨r',r1,r2⟩:=pY hkey hyd es ents.toList 0 r (by simpa using h4) (fun i k v hi=>by
    obtain⟨en,e1,e2⟩:=h5 i k v hi
    exact⟨en,by simpa using e1,e2⟩) hf
   have hlt:b<w.heap.size:=(Array.getElem?_eq_some_iff.1 h2).1;have run:∀w',Below w.heap.size w w'→(Instr.lookup T (.map (some b)) yv ok).run Γ.P w' = .ok (let x:=match r' with|some (_,v)=>(v,true)|none=>(zv,false);if ok then .tuple #[x.1, .bool x.2] else x.1) w':=fun w' hb=>by
    have hrow:=(hb.block b hlt).trans h2;have hfk:=MapKept.run_findKey (P:=Γ.P) (w:=w') fk.und r1;have hck:=MapKept.run_checkKey (P:=Γ.P) (w:=w') fk.und hkey ents.isEmpty 9999;cases r' with
    |none=>simp[Instr.lookup,run_underlying hu,MapKept.run_getObj_map hrow,hck,hfk,uz hz,Result.andThen]
    |some jv=>simp[Instr.lookup,run_underlying hu,MapKept.run_getObj_map hrow,hck,hfk,Result.andThen]
   cases r with
   |none =>
    subst r2;have hzr:=(D.ow (imm:=G.imm) hzd).1;cases ok with
    |true=>exact⟨_,nG (.d _ _ hzr) (.d _ _ (.bool _)),fun w' hb=>by unfold execOp;simp[hop,hxe,hye,run w' hb]⟩
    |false=>exact⟨_, .d _ _ hzr,fun w' hb=>by unfold execOp;simp[hop,hxe,hye,run w' hb]⟩
   |some jv =>
    obtain⟨j,v⟩:=jv;obtain⟨_,v',rfl,hvr,_⟩:=r2;cases ok with
    |true=>exact⟨_,nG (.d _ _ hvr) (.d _ _ (.bool _)),fun w' hb=>by unfold execOp;simp[hop,hxe,hye,run w' hb]⟩
    |false=>exact⟨_, .d _ _ hvr,fun w' hb=>by unfold execOp;simp[hop,hxe,hye,run w' hb]⟩
theorem bM.wY(hW:bM Γ.gl G H w){id b clock clock':Nat}{es es':List (D×D)}{ents ents':Array MapEntry}(hid:H[id]?=some (.map es))(hb:G.loc id=some b)(hc:w.heap[b]?=some (.map ents clock))
  (h4:ents'.size=es'.length) (h6:clock'=ents'.size) (h7:∀(i:Nat) (en:MapEntry),ents'[i]?=some en→en.born=i)
  (h5:∀(i:Nat) (k v:D),es'[i]?=some (k,v)→∃en,ents'[i]?=some en∧DRel G.imm en.key k∧DRel G.imm en.val v) :
  bM Γ.gl G (H.set id (.map es')) { w with heap:=w.heap.setIfInBounds b (.map ents' clock') }:=by
 obtain⟨b0,ents0,clock0,a1,a2,a3,_⟩:=hW.obj id _ hid;rw[hb]at a1;cases a1;have hlt:=aI hid;obtain⟨s1,s2⟩:=MapKept.heap_set (o' := .map ents' clock') hc;refine hW.step (w':={ w with heap:=w.heap.setIfInBounds b (.map ents' clock') }) (H':=H.set id (.map es')) (GLe.refl _ _) rfl rfl rfl (by simp) id (.map es') (by simp) (sG hlt) (fun id' hne=>List.getElem?_set_ne (fun e=>hne e.symm)) (fun _ _ _ _=>rfl)
  (fun b' hb' hno=>⟨s2 b' (fun e=>hno _ hid (by subst e;exact hb)),rfl⟩) (fun b' hb' i hi=>?_) ⟨b,ents',clock',hb,s1,a3,h4,h6,h7,h5⟩
  (fun b' hob => .inr ⟨_,hid,hob⟩) (fun id' hid'=>hW.lim id' (by simpa using hid'))
 rcases hb' with hb'|⟨oj,hj,hob⟩
 ·have:=hW.imm b' i hi;have:=World.block_lt_of_cell? w _ this;simp at this;omega
 ·rw[hid]at hj;cases hj;simp only[OB]at hob;rw[hb]at hob;cases hob;rw[a3]at hi;simp at hi
theorem bM.PT(hW:bM Γ.gl G H w):GLe H.length G (G.bind H.length w.heap.size)∧bM Γ.gl (G.bind H.length w.heap.size) (H++[.map []]) (w.alloc (.map #[] 0)):=by
 have hle:GLe H.length G (G.bind H.length w.heap.size):=⟨rfl,rfl,rfl, .refl _,fun id b hid hb=>by simp[aO.bind,Nat.ne_of_lt hid,hb],fun id n v _ hb=>hb⟩;have immz:=FV hW;refine⟨hle,hW.step (w':=w.alloc (.map #[] 0)) (H':=H++[.map []]) hle rfl rfl rfl (by simp) H.length (.map []) (by simp) (by simp) (fun id hne=>?_) (fun id _ _ k=>rfl) (fun b hb _=>⟨(MapKept.heap_alloc w _).2 b hb,rfl⟩) (fun b hb i hi=>?_) ?_ (fun b hb=>?_) (fun id hid=>?_)⟩
 ·rcases Nat.lt_or_ge id H.length with h|h
  ·exact List.getElem?_append_left h
  ·rw[List.getElem?_eq_none (by simp;omega),List.getElem?_eq_none h]
 ·rcases hb with hb|⟨oj,hj,_⟩
  ·have e:G.imm b=[]:=jE hW hb;have hi':i<(G.imm b).length:=hi;rw[e]at hi';simp at hi'
  ·simp at hj
 ·exact⟨w.heap.size,#[],0,by simp[aO.bind],(MapKept.heap_alloc w _).1,immz,rfl,rfl,fun i en h=>by simp at h,fun i k v h=>by simp at h⟩
 ·simp only[OB,aO.bind,if_true]at hb;cases hb;exact .inl (Nat.le_refl _)
 ·simp only[List.length_append,List.length_singleton]at hid;refine⟨?_,(hW.lim id (by omega)).2⟩;simp only[aO.bind,if_neg (show ¬id=H.length by omega)];exact (hW.lim id (by omega)).1
theorem aa.makeMap{all:Array Oper}{o:Oper}{l:List Oper}{t T:Nat}(hop:o.op = .makeMap T none)(hg:o.guard=none)(hd:o.dst=some t)(ht:Nat.ble (t+1) nt=true)
  (h:aa Γ nt n0 (.ops all l::k) Q ((t, .mp H.length)::env) (H++[.map []])):aa Γ nt n0 (.ops all (o::l)::k) Q env H :=
 fun G0 G a w h0 hl hF hdf hW=>by
  obtain⟨g1,g2⟩:=hW.PT;have hv:bA (G.bind H.length w.heap.size) (.map (some w.heap.size)) (.mp H.length) := .mp _ _ (by simp[aO.bind]);have hn:=h G0 _ (a.put (some t) (.map (some w.heap.size))) _ (h0.trans (g1.weaken hl)) (by simp;omega) ((hF.up g1 hW.lim).put ht hv) (by simp[Act.put,hdf]) g2;simp only[aZ]at hn ⊢;unfold wpList;rw[if_pos (ba hg)];refine .inl ?_;have hr:(execOp a.eval o).run Γ.P w = .ok (.value (.map (some w.heap.size))) (w.alloc (.map #[] 0)):=by
   unfold execOp;simp[hop,run_makeMap]
  unfold Oper.wp;rw[hr];simp only[Oper.upon,hd];exact hn
end
end
section
open Go Go.RowKit
theorem rG{d:TypeDesc}{u u':Value}(hk:MapKept.IsKey d u)(h:Instr.sameNow d u u'=some true):u'=u:=by
 unfold Instr.sameNow at h;split at h
 ·split at h
  ·rename_i e;subst e;simp at h;rw[h]
  ·cases h
 ·rename_i a b;simp only[Option.some.injEq,beq_toListBytes,ByteArray.toList_eq,OA,decide_eq_true_eq]at h;obtain⟨⟨x⟩⟩:=a;obtain⟨⟨y⟩⟩:=b;simp at h;rw[h]
 ·simp at h;rw[h]
 ·cases h
theorem sameBits_self{d:TypeDesc}{u:Value}(hk:MapKept.IsKey d u)(n:Nat):Instr.sameBits n u u=true:=by
 cases d<;>cases u<;>simp[MapKept.IsKey]at hk<;>cases n<;>simp[Instr.sameBits,beq_toListBytes]
def rN(es:List (D×D))(kd v:D):Option (Nat×D)→List (D×D)
 |some (i,_)=>jC es i v
 |none=>es++[(kd,v)]
def oK(es:List (D×D))(kd z:D):Option (Nat×D)→List (D×D)
 |some _=>es
 |none=>es++[(kd,z)]
def sZ(es:List (D×D))(z:D):Option (Nat×D)→AV
 |some (i,v) => .cH [.d v, .d (.int .i64 (i:Int))]
 |none => .cH [.d z, .d (.int .i64 (es.length:Int))]
section
variable {Γ:Ctx}{G:aO}{H:List aN}{w:World}{nt n0:Nat}{k:List It}{Q:Post}{env:Env}
theorem yR(es:List (D×D))(n:Nat)(v:D)(i:Nat):(jC es n v)[i]?=if n=i then (es[i]?).map (fun p=>(p.1,v)) else es[i]?:=by
 unfold jC;rw[List.getElem?_modify];split<;>simp
theorem Hk(es:List (D×D))(n:Nat)(v:D):(jC es n v).length=es.length:=by simp[jC]
theorem qo{ents:Array MapEntry}{es:List (D×D)}{imm:Nat→List Value}(h4:ents.size=es.length)(h7:∀(i:Nat) (en:MapEntry),ents[i]?=some en→en.born=i)
  (h5:∀(i:Nat) (k v:D),es[i]?=some (k,v)→∃en,ents[i]?=some en∧DRel imm en.key k∧DRel imm en.val v) (j:Nat) (g:MapEntry→MapEntry) (vd:D) (hb:∀en,(g en).born=en.born)
  (hg:∀en k,ents[j]?=some en→DRel imm en.key k→DRel imm (g en).key k∧DRel imm (g en).val vd) :
  (ents.modify j g).size=(jC es j vd).length∧(∀(i:Nat) (en:MapEntry),(ents.modify j g)[i]?=some en→en.born=i) ∧
  (∀(i:Nat) (k v:D),(jC es j vd)[i]?=some (k,v)→∃en,(ents.modify j g)[i]?=some en∧DRel imm en.key k∧DRel imm en.val v):=by
 refine⟨by simp[Hk,h4],fun i en hi=>?_,fun i k v hi=>?_⟩
 ·rw[Array.getElem?_modify]at hi;split at hi
  ·rename_i e;subst e;cases hq:ents[j]? with
   |none=>simp[hq]at hi
   |some e0=>simp[hq]at hi;subst hi;rw[hb];exact h7 j e0 hq
  ·exact h7 i en hi
 ·rw[yR]at hi;rw[Array.getElem?_modify];split at hi
  ·rename_i e;subst e;rw[if_pos rfl];cases hq:es[j]? with
   |none=>simp[hq]at hi
   |some p =>
    simp[hq]at hi;obtain⟨rfl,rfl⟩:=hi;obtain⟨en,e1,e2,e3⟩:=h5 j p.1 p.2 hq;obtain⟨g1,g2⟩:=hg en p.1 e1 e2;exact⟨g en,by simp[e1],g1,g2⟩
  ·rename_i e;rw[if_neg e];exact h5 i k v hi
theorem uK{ents:Array MapEntry}{es:List (D×D)}{imm:Nat→List Value}(h4:ents.size=es.length)(h7:∀(i:Nat) (en:MapEntry),ents[i]?=some en→en.born=i)
  (h5:∀(i:Nat) (k v:D),es[i]?=some (k,v)→∃en,ents[i]?=some en∧DRel imm en.key k∧DRel imm en.val v) {u x:Value} {kd vd:D} (hu:DRel imm u kd) (hx:DRel imm x vd) :
  (ents.push { key:=u,val:=x,born:=ents.size }).size=(es++[(kd,vd)]).length∧(∀(i:Nat) (en:MapEntry),(ents.push { key:=u,val:=x,born:=ents.size })[i]?=some en→en.born=i) ∧
  (∀(i:Nat) (k v:D),(es++[(kd,vd)])[i]?=some (k,v)→∃en,(ents.push { key:=u,val:=x,born:=ents.size })[i]?=some en∧DRel imm en.key k∧DRel imm en.val v):=by
 refine⟨by simp[h4],fun i en hi=>?_,fun i k v hi=>?_⟩
 ·rw[Array.getElem?_push]at hi;split at hi
  ·rename_i e;cases hi;simp[e]
  ·exact h7 i en hi
 ·rw[Array.getElem?_push];rcases Nat.lt_or_ge i es.length with hl|hl
  ·rw[List.getElem?_append_left hl]at hi;rw[if_neg (by omega)];exact h5 i k v hi
  ·rw[List.getElem?_append_right hl]at hi;have e:i=es.length:=by have:=aI hi;simp at this;omega
   subst e;simp at hi;obtain⟨rfl,rfl⟩:=hi;rw[if_pos h4.symm];exact⟨_,rfl,hu,hx⟩
theorem xh(es:List (D×D))(j:Nat)(k' v:D)(h:es[j]?=some (k',v)):jC es j v=es:=by
 apply List.ext_getElem?;intro i;rw[yR];split
 ·rename_i e;subst e;rw[h];rfl
 ·rfl
theorem aa.mapUpdate{all:Array Oper}{o:Oper}{l:List Oper}{T kt et id:Nat}{ti tk:TI}{x y z:Operand}{es:List (D×D)}{kd vd:D}{r:Option (Nat×D)}(hop:o.op = .mapUpdate T x y z)(hg:o.guard=none)(hd:o.dst=none)
  (hT:aY Γ.T T=some ti) (hsh:ti.sh = .map kt et) (hK:aY Γ.T kt=some tk) (hx:ev Γ env x = .mp id) (hy:ev Γ env y = .d kd) (hz:ev Γ env z = .d vd) (hh:hget H id=some (.map es)) (hfit:jL tk.sh kd=true) (hf:jq kd es 0=some r)
  (h:aa Γ nt n0 (.ops all l::k) Q env (H.set id (.map (rN es kd vd r)))):aa Γ nt n0 (.ops all (o::l)::k) Q env H :=
 fun G0 G a w h0 hl hF hdf hW=>by
  obtain⟨f⟩:=Γ.ty hT;obtain⟨fk⟩:=Γ.ty hK;have hu:=vK f hsh;have hxv:=bN hW hF x;rw[hx]at hxv;have hyv:=bN hW hF y;rw[hy]at hyv;have hzv:=bN hW hF z;rw[hz]at hzv;rw[dA]at hh;obtain⟨b,ents,clock,h1,h2,h3,h4,h6,h7,h5⟩:=hW.obj id _ hh;generalize hxe:a.eval x=xv at hxv;generalize hye:a.eval y=yv at hyv;generalize hze:a.eval z=zv at hzv;cases hxv with
  | mp b' _ hb' =>
   rw[h1]at hb';cases hb';cases hyv with
   | d _ _ hyd =>
    cases hzv with
    | d _ _ hzd =>
     have hkey:=oN fk hfit hyd
     obtain⟨r',r1,r2⟩:=pY hkey hyd es ents.toList 0 r (by simpa using h4) (fun i k v hi=>by
      obtain⟨en,e1,e2⟩:=h5 i k v hi
      exact⟨en,by simpa using e1,e2⟩) hf
     have hfk:=MapKept.run_findKey (P:=Γ.P) (w:=w) fk.und r1;have hck:=MapKept.run_checkKey (P:=Γ.P) (w:=w) fk.und hkey false 9999;have fin:∀(ents':Array MapEntry) (clock':Nat),ents'.size=(rN es kd vd r).length→clock'=ents'.size→(∀(i:Nat) (en:MapEntry),ents'[i]?=some en→en.born=i) →
       (∀(i:Nat) (k v:D),(rN es kd vd r)[i]?=some (k,v)→∃en,ents'[i]?=some en∧DRel G.imm en.key k∧DRel G.imm en.val v) →
       (Instr.mapUpdate T (.map (some b)) yv zv).run Γ.P w = .ok () { w with heap:=w.heap.setIfInBounds b (.map ents' clock') }→aZ Γ.P (Conc Γ nt n0 G0 Q) (.ops all (o::l)::k) .normal a w:=fun ents' clock' p1 p2 p3 p4 hrun=>by
      have hW':=hW.wY hh h1 h2 p1 p2 p3 p4;have hn:=h G0 G a _ h0 (by simpa using hl) hF hdf hW';simp only[aZ]at hn ⊢;unfold wpList;rw[if_pos (ba hg)];refine .inl ?_;have hr:(execOp a.eval o).run Γ.P w = .ok .skip { w with heap:=w.heap.setIfInBounds b (.map ents' clock') }:=by
       unfold execOp;simp[hop,hxe,hye,hze,hrun]
      unfold Oper.wp;rw[hr];simp only[Oper.upon,hd,Act.put];exact hn
     cases r with
     |none =>
      subst r2;obtain⟨p1,p2,p3⟩:=uK h4 h7 h5 hyd hzd;rw[←h6]at p1 p2 p3;exact fin _ (clock+1) p1 (by simp[h6]) p2 p3 (by simp[Instr.mapUpdate,run_underlying hu,MapKept.run_getObj_map h2,hck,hfk,MapKept.run_setObj_map _ h2,Result.andThen])
     | some jv =>
      obtain⟨j,v⟩:=jv;obtain⟨_,v',rfl,hvr,⟨en,e1,e2,e3⟩,_⟩:=r2;rw[Nat.sub_zero]at e1;have e1':ents[j]?=some en:=by simpa using e1
      have ek:=rG hkey e3
      obtain⟨p1,p2,p3⟩:=qo h4 h7 h5 j (fun e=>{ e with key:=yv,val:=zv }) vd (fun _=>rfl) (fun en0 k0 hq hkd=>by
       rw[e1']at hq;cases hq;rw[ek]at hkd
       exact⟨hkd,hzd⟩)
      exact fin _ clock p1 (by simp[h6]) p2 p3 (by
       simp[Instr.mapUpdate,run_underlying hu,MapKept.run_getObj_map h2,hck,hfk,MapKept.run_setObj_map _ h2,Result.andThen,e1',Instr.keyThatStays,ek,sameBits_self hkey])
theorem aa.mapEntry{all:Array Oper}{o:Oper}{l:List Oper}{t T kt et id:Nat}{ti tk te:TI}{x y:Operand}{es:List (D×D)}{kd:D}{r:Option (Nat×D)}{zv:Value}(hop:o.op = .mapEntry T x y)(hg:o.guard=none)(hd:o.dst=some t)(ht:Nat.ble (t+1) nt=true)
  (hT:aY Γ.T T=some ti) (hsh:ti.sh = .map kt et) (hK:aY Γ.T kt=some tk) (hx:ev Γ env x = .mp id) (hy:ev Γ env y = .d kd) (hE:aY Γ.T et=some te) (hzd:(zD te).iQ=some zv) (hz:zeroV Γ.P et=some zv) (hh:hget H id=some (.map es)) (hfit:jL tk.sh kd=true) (hf:jq kd es 0=some r)
  (h:aa Γ nt n0 (.ops all l::k) Q ((t,sZ es (zD te) r)::env) (H.set id (.map (oK es kd (zD te) r)))):aa Γ nt n0 (.ops all (o::l)::k) Q env H :=
 fun G0 G a w h0 hl hF hdf hW=>by
  obtain⟨f⟩:=Γ.ty hT;obtain⟨fk⟩:=Γ.ty hK;have hu:=vK f hsh;have hxv:=bN hW hF x;rw[hx]at hxv;have hyv:=bN hW hF y;rw[hy]at hyv;have hzr:=(D.ow (imm:=G.imm) hzd).1;rw[dA]at hh;obtain⟨b,ents,clock,h1,h2,h3,h4,h6,h7,h5⟩:=hW.obj id _ hh;generalize hxe:a.eval x=xv at hxv;generalize hye:a.eval y=yv at hyv;cases hxv with
  | mp b' _ hb' =>
   rw[h1]at hb';cases hb';cases hyv with
   | d _ _ hyd =>
    have hkey:=oN fk hfit hyd
    obtain⟨r',r1,r2⟩:=pY hkey hyd es ents.toList 0 r (by simpa using h4) (fun i k v hi=>by
     obtain⟨en,e1,e2⟩:=h5 i k v hi
     exact⟨en,by simpa using e1,e2⟩) hf
    have hfk:=MapKept.run_findKey (P:=Γ.P) (w:=w) fk.und r1;have hck:=MapKept.run_checkKey (P:=Γ.P) (w:=w) fk.und hkey false 9999;have fin:∀(ents':Array MapEntry) (clock':Nat) (rv:Value),bA G rv (sZ es (zD te) r)→ents'.size=(oK es kd (zD te) r).length→clock'=ents'.size→(∀(i:Nat) (en:MapEntry),ents'[i]?=some en→en.born=i) →
      (∀(i:Nat) (k v:D),(oK es kd (zD te) r)[i]?=some (k,v)→∃en,ents'[i]?=some en∧DRel G.imm en.key k∧DRel G.imm en.val v) →
      (Instr.mapEntry T (.map (some b)) yv).run Γ.P w = .ok rv { w with heap:=w.heap.setIfInBounds b (.map ents' clock') }→aZ Γ.P (Conc Γ nt n0 G0 Q) (.ops all (o::l)::k) .normal a w:=fun ents' clock' rv hrv p1 p2 p3 p4 hrun=>by
     have hW':=hW.wY hh h1 h2 p1 p2 p3 p4;have hn:=h G0 G (a.put (some t) rv) _ h0 (by simpa using hl) (hF.put ht hrv) (by simp[Act.put,hdf]) hW';simp only[aZ]at hn ⊢;unfold wpList;rw[if_pos (ba hg)];refine .inl ?_;have hr:(execOp a.eval o).run Γ.P w = .ok (.value rv) { w with heap:=w.heap.setIfInBounds b (.map ents' clock') }:=by
      unfold execOp;simp[hop,hxe,hye,hrun]
     unfold Oper.wp;rw[hr];simp only[Oper.upon,hd];exact hn
    cases r with
    |none =>
     subst r2;obtain⟨p1,p2,p3⟩:=uK h4 h7 h5 hyd hzr;rw[←h6]at p1 p2 p3;exact fin _ (clock+1) (.tuple #[zv,goInt clock]) (by rw[h6,h4];exact nG (.d _ _ hzr) (.d _ _ (.int ..))) p1 (by simp[h6]) p2 p3 (by simp[Instr.mapEntry,run_underlying hu,uz hz,MapKept.run_getObj_map h2,hck,hfk,MapKept.run_setObj_map _ h2,Result.andThen])
    | some jv =>
     obtain⟨j,v⟩:=jv;obtain⟨_,v',rfl,hvr,⟨en,e1,e2,e3⟩,k',e4⟩:=r2;rw[Nat.sub_zero]at e4;rw[Nat.sub_zero]at e1;have e1':ents[j]?=some en:=by simpa using e1
     have ek:=rG hkey e3
     obtain⟨p1,p2,p3⟩:=qo h4 h7 h5 j (fun e=>{ e with key:=yv }) v (fun _=>rfl) (fun en0 k0 hq hkd=>by
      rw[e1']at hq;cases hq;rw[ek]at hkd
      exact⟨hkd,by rw[e2];exact hvr⟩)
     rw[xh es j k' v e4]at p1 p3;have hbn:=h7 j en e1'
     exact fin _ clock (.tuple #[v',goInt en.born]) (by rw[hbn];exact nG (.d _ _ hvr) (.d _ _ (.int ..))) p1 (by simp[h6]) p2 p3 (by
      simp[Instr.mapEntry,run_underlying hu,MapKept.run_getObj_map h2,hck,hfk,MapKept.run_setObj_map _ h2,Result.andThen,e1',Instr.keyThatStays,ek,sameBits_self hkey])
theorem CO{ents:Array MapEntry}(h7:∀(i:Nat) (en:MapEntry),ents[i]?=some en→en.born=i){n:Nat}(hn:n<ents.size):ents.findIdx? (fun e=>(e.born:Int)==(n:Int))=some n:=by
 rw[Array.findIdx?_eq_some_iff_getElem];refine⟨hn,by rw[h7 n ents[n] (by simp[hn])];simp,fun j hj=>?_⟩;rw[h7 j ents[j] (by simp[show j<ents.size by omega])];simp;omega
theorem aa.entryStore{all:Array Oper}{o:Oper}{l:List Oper}{T id:Nat}{x y z:Operand}{es:List (D×D)}{n:Int}{ky:IntKind}{vd:D}(hop:o.op = .entryStore T x y z)(hg:o.guard=none)(hd:o.dst=none)
  (hx:ev Γ env x = .mp id) (hy:ev Γ env y = .d (.int ky n)) (hz:ev Γ env z = .d vd) (hh:hget H id=some (.map es)) (hn:0≤n∧n<(es.length:Int))
  (h:aa Γ nt n0 (.ops all l::k) Q env (H.set id (.map (jC es n.toNat vd)))):aa Γ nt n0 (.ops all (o::l)::k) Q env H :=
 fun G0 G a w h0 hl hF hdf hW=>by
  have hxv:=bN hW hF x;rw[hx]at hxv;have hyv:=bN hW hF y;rw[hy]at hyv;have hzv:=bN hW hF z;rw[hz]at hzv;rw[dA]at hh;obtain⟨b,ents,clock,h1,h2,h3,h4,h6,h7,h5⟩:=hW.obj id _ hh;generalize hxe:a.eval x=xv at hxv;have hye:=hyv.cT;generalize hze:a.eval z=zv at hzv;obtain⟨m,rfl⟩:=Int.eq_ofNat_of_zero_le hn.1;have hm:m<ents.size:=by omega
  cases hxv with
  | mp b' _ hb' =>
   rw[h1]at hb';cases hb';cases hzv with
   | d _ _ hzd =>
    obtain⟨p1,p2,p3⟩:=qo h4 h7 h5 m (fun e=>{ e with val:=zv }) vd (fun _=>rfl) (fun en0 k0 hq hkd=>⟨hkd,hzd⟩);have hW':=hW.wY hh h1 h2 p1 (clock':=clock) (by simp[h6]) p2 p3;have hnx:=h G0 G a _ h0 (by simpa using hl) hF hdf hW';simp only[aZ]at hnx ⊢;unfold wpList;rw[if_pos (ba hg)];refine .inl ?_;have hfb:=CO h7 hm;have hrun:(Instr.entryStore T (.map (some b)) (.int ky (m:Int)) zv).run Γ.P w = .ok () { w with heap:=w.heap.setIfInBounds b (.map (ents.modify m fun e=>{ e with val:=zv }) clock) }:=by
     simp[Instr.entryStore,MapKept.run_getObj_map h2,asInt,asIntOf,hfb,MapKept.run_setObj_map _ h2,Result.andThen]
    have hr:(execOp a.eval o).run Γ.P w = .ok .skip { w with heap:=w.heap.setIfInBounds b (.map (ents.modify m fun e=>{ e with val:=zv }) clock) }:=by
     unfold execOp;simp[hop,hxe,hye,hze,hrun]
    unfold Oper.wp;rw[hr];simp only[Oper.upon,hd,Act.put];exact hnx
theorem sK{o:Oper}{t:Nat}{ti:TI}{x:Operand}{cs:List D}{v:D}(hop:o.op = .load t x)(hT:aY Γ.T t=some ti)(hx:ev Γ env x = .d (.iptr cs))(hv:kC ti cs 0=some v):eu Γ nt env H o (.d v):=by
 intro G a w hW hF;have hq:qop Γ true (.load t x) env H=some (True, .d v):=by
  simp only[qop,hT,hx,hv]
 exact pU (o:=o) hW hF (nn:=true) (c:=True) (v := .d v) (by rw[hop];exact hq) trivial
theorem aa.lookup{all:Array Oper}{o:Oper}{l:List Oper}{t T kt et id:Nat}{ti tk te:TI}{x y:Operand}{ok:Bool}{es:List (D×D)}{kd:D}{r:Option (Nat×D)}{zv:Value}{v:AV}(hop:o.op = .lookup T x y ok)(hg:o.guard=none)(hd:o.dst=some t)(ht:Nat.ble (t+1) nt=true)
  (hT:aY Γ.T T=some ti) (hsh:ti.sh = .map kt et) (hK:aY Γ.T kt=some tk) (hE:aY Γ.T et=some te) (hx:ev Γ env x = .mp id) (hy:ev Γ env y = .d kd) (hh:hget H id=some (.map es)) (hfit:jL tk.sh kd=true)
  (hzd:(zD te).iQ=some zv) (hz:zeroV Γ.P et=some zv) (hf:jq kd es 0=some r) (hv:yU ok (zD te) r=v)
  (h:aa Γ nt n0 (.ops all l::k) Q ((t,v)::env) H):aa Γ nt n0 (.ops all (o::l)::k) Q env H :=
 aa.opx (oJ hop hT hsh hK hE hx hy hh hfit hz hzd hf hv) hg hd ht h
theorem aa.oM{all:Array Oper}{o:Oper}{l:List Oper}{t T:Nat}{ti:TI}{x:Operand}{cs:List D}{v:D}(hop:o.op = .load T x)(hg:o.guard=none)(hd:o.dst=some t)(ht:Nat.ble (t+1) nt=true)
  (hT:aY Γ.T T=some ti) (hx:ev Γ env x = .d (.iptr cs)) (hv:kC ti cs 0=some v)
  (h:aa Γ nt n0 (.ops all l::k) Q ((t, .d v)::env) H):aa Γ nt n0 (.ops all (o::l)::k) Q env H :=
 aa.opx (sK hop hT hx hv) hg hd ht h
theorem aa.ji{all:Array Oper}{o:Oper}{l:List Oper}{t T kt et id:Nat}{ti tk te:TI}{x y:Operand}{ok:Bool}{es:List (D×D)}{kd:D}{r:Option (Nat×D)}{zv:Value}{v:AV}(hop:o.op = .lookup T x y ok)(hg:o.guard=none)(hd:o.dst=some t)(ht:Nat.ble (t+1) nt=true)
  (hT:aY Γ.T T=some ti) (hsh:ti.sh = .map kt et) (hK:aY Γ.T kt=some tk) (hE:aY Γ.T et=some te) (hx:ev Γ env x = .mp id) (hy:ev Γ env y = .d kd) (hh:hget H id=some (.map es)) (hfit:jL tk.sh kd=true)
  (hzd:(zD te).iQ=some zv) (hz:zeroV Γ.P et=some zv) (hf:jq kd es 0=some r) (hv:yU ok (zD te) r=v)
  (h:aa Γ nt n0 (.qops all l::k) Q ((t,v)::env) H):aa Γ nt n0 (.qops all (o::l)::k) Q env H :=
 aa.yj (oJ hop hT hsh hK hE hx hy hh hfit hz hzd hf hv) hg hd ht h
theorem aa.jV{all:Array Oper}{o:Oper}{l:List Oper}{t T kt et id:Nat}{ti tk te:TI}{x y:Operand}{ok:Bool}{es:List (D×D)}{kd:D}{r:Option (Nat×D)}{zv:Value}{v:AV}(h:aa Γ nt n0 (.qops all l::k) Q ((t,v)::env) H)(hop:o.op = .lookup T x y ok:=by rfl)(hg:o.guard=none:=by rfl)(hd:o.dst=some t:=by rfl)(ht:Nat.ble (t+1) nt=true:=by rfl)(hT:aY Γ.T T=some ti:=by rfl)(hsh:ti.sh = .map kt et:=by rfl)(hK:aY Γ.T kt=some tk:=by rfl)(hE:aY Γ.T et=some te:=by rfl)(hx:ev Γ env x = .mp id:=by rfl)(hy:ev Γ env y = .d kd:=by rfl)(hh:hget H id=some (.map es):=by rfl)(hfit:jL tk.sh kd=true:=by rfl)(hzd:(zD te).iQ=some zv:=by rfl)(hz:zeroV Γ.P et=some zv:=by kernel_rfl)(hf:jq kd es 0=some r:=by exact f4)(hv:yU ok (zD te) r=v:=by rfl):aa Γ nt n0 (.qops all (o::l)::k) Q env H:=aa.ji hop hg hd ht hT hsh hK hE hx hy hh hfit hzd hz hf hv h
theorem aa.vM{all:Array Oper}{o:Oper}{l:List Oper}{t T:Nat}{ti:TI}{x:Operand}{cs:List D}{v:D}(hop:o.op = .load T x)(hg:o.guard=none)(hd:o.dst=some t)(ht:Nat.ble (t+1) nt=true)
  (hT:aY Γ.T T=some ti) (hx:ev Γ env x = .d (.iptr cs)) (hv:kC ti cs 0=some v)
  (h:aa Γ nt n0 (.qops all l::k) Q ((t, .d v)::env) H):aa Γ nt n0 (.qops all (o::l)::k) Q env H :=
 aa.yj (sK hop hT hx hv) hg hd ht h
theorem aa.jh{all:Array Oper}{o:Oper}{l:List Oper}{t T kt et id:Nat}{ti tk te:TI}{x y:Operand}{ok:Bool}{es:List (D×D)}{kd:D}{r:Option (Nat×D)}{zv:Value}{v:AV}(hop:o.op = .lookup T x y ok)(hg:o.guard=none)(hd:o.dst=some t)(ht:Nat.ble (t+1) nt=true)
  (hT:aY Γ.T T=some ti) (hsh:ti.sh = .map kt et) (hK:aY Γ.T kt=some tk) (hE:aY Γ.T et=some te) (hx:ev Γ env x = .mp id) (hy:ev Γ env y = .d kd) (hh:hget H id=some (.map es)) (hfit:jL tk.sh kd=true)
  (hzd:(zD te).iQ=some zv) (hz:zeroV Γ.P et=some zv) (hf:jq kd es 0=some r) (hv:yU ok (zD te) r=v)
  (h:aa Γ nt n0 (.sops all l::k) Q ((t,v)::env) H):aa Γ nt n0 (.sops all (o::l)::k) Q env H :=
 aa.I0 (oJ hop hT hsh hK hE hx hy hh hfit hz hzd hf hv) hg hd ht h
theorem aa.jT{all:Array Oper}{o:Oper}{l:List Oper}{t T kt et id:Nat}{ti tk te:TI}{x y:Operand}{ok:Bool}{es:List (D×D)}{kd:D}{r:Option (Nat×D)}{zv:Value}{v:AV}(h:aa Γ nt n0 (.sops all l::k) Q ((t,v)::env) H)(hop:o.op = .lookup T x y ok:=by rfl)(hg:o.guard=none:=by rfl)(hd:o.dst=some t:=by rfl)(ht:Nat.ble (t+1) nt=true:=by rfl)(hT:aY Γ.T T=some ti:=by rfl)(hsh:ti.sh = .map kt et:=by rfl)(hK:aY Γ.T kt=some tk:=by rfl)(hE:aY Γ.T et=some te:=by rfl)(hx:ev Γ env x = .mp id:=by rfl)(hy:ev Γ env y = .d kd:=by rfl)(hh:hget H id=some (.map es):=by rfl)(hfit:jL tk.sh kd=true:=by rfl)(hzd:(zD te).iQ=some zv:=by rfl)(hz:zeroV Γ.P et=some zv:=by kernel_rfl)(hf:jq kd es 0=some r:=by exact f4)(hv:yU ok (zD te) r=v:=by rfl):aa Γ nt n0 (.sops all (o::l)::k) Q env H:=aa.jh hop hg hd ht hT hsh hK hE hx hy hh hfit hzd hz hf hv h
end
section
open Go Go.RowKit
variable {Γ:Ctx}{G:aO}{H:List aN}{w:World}{nt n0:Nat}{k:List It}{Q:Post}{env:Env}
theorem aa.il{all:Array Oper}{o:Oper}{l:List Oper}{T kt et id:Nat}{ti tk:TI}{x y z:Operand}{es:List (D×D)}{kd vd:D}{r:Option (Nat×D)}{bb:Prop}(h:bb)(hop:o.op = .mapUpdate T x y z:=by rfl)(hg:o.guard=none:=by rfl)(hd:o.dst=none:=by rfl)(hT:aY Γ.T T=some ti:=by rfl)(hsh:ti.sh = .map kt et:=by rfl)(hK:aY Γ.T kt=some tk:=by rfl)(hx:ev Γ env x = .mp id:=by rfl)(hy:ev Γ env y = .d kd:=by rfl)(hz:ev Γ env z = .d vd:=by rfl)(hh:hget H id=some (.map es):=by rfl)(hfit:jL tk.sh kd=true:=by rfl)(hf:jq kd es 0=some r:=by exact f4)(hbb:bb→aa Γ nt n0 (.ops all l::k) Q env (H.set id (.map (rN es kd vd r))):=by intro k;simp only[List.set_cons_succ,List.set_cons_zero];exact k):aa Γ nt n0 (.ops all (o::l)::k) Q env H:=aa.mapUpdate hop hg hd hT hsh hK hx hy hz hh hfit hf (hbb h)
end
section
open Go Go.RowKit
variable {Γ:Ctx}{G:aO}{H:List aN}{w:World}{nt n0:Nat}{k:List It}{Q:Post}{env:Env}
theorem aa.uD{all:Array Oper}{o:Oper}{l:List Oper}{t T:Nat}{bb:Prop}(h:bb)(hop:o.op = .makeMap T none:=by rfl)(hg:o.guard=none:=by rfl)(hd:o.dst=some t:=by rfl)(ht:Nat.ble (t+1) nt=true:=by rfl)(hbb:bb→aa Γ nt n0 (.ops all l::k) Q ((t, .mp H.length)::env) (H++[.map []]):=by intro k;simp only[List.length_cons,List.length_nil,Nat.reduceAdd,List.cons_append,List.nil_append];exact k):aa Γ nt n0 (.ops all (o::l)::k) Q env H:=aa.makeMap hop hg hd ht (hbb h)
end
end
end Go.Proofs.YtbpednchkndocaaGreatDoor.Av
