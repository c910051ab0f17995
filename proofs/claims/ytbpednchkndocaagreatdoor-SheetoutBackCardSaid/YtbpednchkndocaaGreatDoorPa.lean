/- Abstract values: data trees and objects, what they say of a world. What abstract objects say of a world; how a step of the world carries that on. The evaluator's quiet operations, and that they are sound. Quiet operations: reads of memory, addresses; all of them together. Quiet operations are sound. Quiet operations are sound: the rest, and all of them. The driver: stacks of code, one step at a time. Names turned; entering functions; calls; loops; what may be forgotten. Calls: the callee sees its own names and nothing else. -/
import Derived.WalkKit
import Derived.KernelRfl
import Derived.Deep.LoopGhost
import Derived.Deep.Quiet
import Derived.Laws.AppendOwn
import Derived.Laws.Rows
import Derived.Deep.MidRow
import Derived.Laws.BytesString
import Derived.StillTail
set_option linter.unusedVariables false
set_option linter.unusedSimpArgs false
set_option maxRecDepth 100000
set_option maxHeartbeats 64000000
namespace Go.Proofs.YtbpednchkndocaaGreatDoor.Av
theorem Tn {a:Prop} (h:a:=by first|exact⟨rfl,rfl⟩|omega):a:=h
theorem Tp {a:Prop} (h:a:=by exact⟨rfl,rfl⟩):a:=h
section
open Go Go.RowKit
inductive D where
 |bool (b:Bool)|int (k:IntKind) (n:Int)|str (s:List UInt8)
 |nilp|nilm|aU|nilf|sl (sz:Nat) (es:List D)|agg (cs:List D)|iptr (cs:List D)|top
def D.cells:D→List D | .agg cs=>cs|d=>[d]
def D.one:D→Bool | .agg _=>false|_=>true
def gv(l:List Value)(i:Nat):Value:=l.getD i undef
inductive DRel(imm:Nat→List Value):Value→D→Prop
 |bool (b:Bool):DRel imm (.bool b) (.bool b)
 |int (k:IntKind) (n:Int):DRel imm (.int k n) (.int k n)
 |str (s:ByteArray):DRel imm (.string s) (.str s.data.toList)
 |nilp:DRel imm (.pointer none) .nilp
 |nilm:DRel imm (.map none) .nilm
 |nilf:DRel imm .nilFunc .nilf
 |aU:DRel imm (.slice none 0 0) .aU
 |sl0 (a:Option Addr) (cap sz:Nat):DRel imm (.slice a 0 cap) (.sl sz [])
 | sl (b o cap sz : Nat) (es : List D) (hne : es ≠ []) (hcap : es.length ≤ cap) (hsz : ∀ e ∈ es, e.cells.length = sz) (hone : ∀ e ∈ es, ∀ c ∈ e.cells, c.one = true)
   (hin:o+es.length*sz≤(imm b).length)
   (h:∀(i:Nat) (e:D) (j:Nat) (c:D),es[i]?=some e→e.cells[j]?=some c→DRel imm (gv (imm b) (o+i*sz+j)) c) :
   DRel imm (.slice (some ⟨b,o,none⟩) es.length cap) (.sl sz es)
 | agg (vs : Array Value) (cs : List D) (hl : vs.size = cs.length) (hone : ∀ c ∈ cs, c.one = true)
   (h:∀(i:Nat) (c:D),cs[i]?=some c→DRel imm (gv vs.toList i) c):DRel imm (.agg vs) (.agg cs)
 | iptr (b o : Nat) (cs : List D) (hin : o + cs.length ≤ (imm b).length) (hone : ∀ c ∈ cs, c.one = true)
   (h:∀(j:Nat) (c:D),cs[j]?=some c→DRel imm (gv (imm b) (o+j)) c):DRel imm (.pointer (some ⟨b,o,none⟩)) (.iptr cs)
 |top (v:Value) (h:v.oneCell'=true):DRel imm v .top
theorem DRel.oneCell{imm:Nat→List Value}{v:Value}{x:D}(h:DRel imm v x)(h1:x.one=true):v.oneCell'=true:=by
 cases h<;>first|rfl|assumption|(simp[D.one]at h1)
def dR(a b:Nat→List Value):Prop:=∀k,a k <+: b k
theorem dR.refl(a:Nat→List Value):dR a a:=fun _=>List.prefix_refl _
theorem dR.trans{a b c:Nat→List Value}(h:dR a b)(k:dR b c):dR a c:=fun i=>(h i).trans (k i)
theorem dR.len{a b:Nat→List Value}(h:dR a b)(k:Nat):(a k).length≤(b k).length:=(h k).length_le
theorem Hy{l l':List Value}(h:l <+: l'){i:Nat}(hi:i<l.length):gv l' i=gv l i:=by
 obtain⟨t,rfl⟩:=h;simp[gv,List.getD,List.getElem?_append_left hi]
theorem dR.gv{a b:Nat→List Value}(h:dR a b){k i:Nat}(hi:i<(a k).length):gv (b k) i=gv (a k) i:=Hy (h k) hi
theorem oO{i n sz j:Nat}(hi:i<n)(hj:j<sz):i*sz+j<n*sz:=by
 have:(i+1)*sz≤n*sz:=Nat.mul_le_mul_right _ hi;rw[Nat.add_mul]at this;omega
theorem aI{α:Type}{l:List α}{i:Nat}{x:α}(h:l[i]?=some x):i<l.length:=by
 rcases Nat.lt_or_ge i l.length with h'|h'
 ·exact h'
 ·rw[List.getElem?_eq_none h']at h;cases h
theorem jG{α:Type}{l:List α}{i:Nat}{x:α}(h:l[i]?=some x):x∈l:=List.mem_of_getElem? h
theorem DRel.mono{imm imm':Nat→List Value}(hle:dR imm imm'){v:Value}{x:D}(h:DRel imm v x):DRel imm' v x:=by
 induction h with
 |bool b=>exact .bool b
 |int k n=>exact .int k n
 |str s=>exact .str s
 |nilp=>exact .nilp
 |nilm=>exact .nilm
 |nilf=>exact .nilf
 |aU=>exact .aU
 |sl0 a cap sz=>exact .sl0 a cap sz
 |sl b o cap sz es hne hcap hsz hone hin h ih =>
  refine .sl b o cap sz es hne hcap hsz hone (Nat.le_trans hin (hle.len b)) fun i e j c he hc=>?_
  have:=ih i e j c he hc;have h1:i*sz+j<es.length*sz:=oO (aI he) (by rw[←hsz e (jG he)];exact aI hc)
  rwa [hle.gv (by omega)]
 |agg vs cs hl hone h ih=>exact .agg vs cs hl hone ih
 |iptr b o cs hin hone h ih =>
  refine .iptr b o cs (Nat.le_trans hin (hle.len b)) hone fun j c hc=>?_
  have:=ih j c hc
  rwa [hle.gv (by have:=aI hc;omega)]
 |top v h=>exact .top v h
inductive AV where
 |d (x:D)
 |ptr (id off:Nat)
 |eptr (id n sz i off:Nat)
 |own (sz:Nat) (es:List D) (id:Nat)
 |ms (id n:Nat)
 |ag (cs:List AV)
 |cH (vs:List AV)
 |fn (f:Fn) (first cap:List AV)
 |mp (id:Nat)
 |it (id:Nat)
 |top
def AV.one:AV→Bool | .d x=>x.one | .ag _=>false | .cH _=>false | .top=>false|_=>true
def AV.cells:AV→List AV | .d x=>x.cells.map .d | .ag cs=>cs|v=>[v]
structure aO where
 base:World
 imm0:Nat→List Value
 own0:Nat→Prop
 imm:Nat→List Value
 loc:Nat→Option Nat
 fl:Nat→Nat→Option Value
inductive bA(G:aO):Value→AV→Prop
 |d (v:Value) (x:D) (h:DRel G.imm v x):bA G v (.d x)
 |ptr (b id off:Nat) (h:G.loc id=some b):bA G (.pointer (some ⟨b,off,none⟩)) (.ptr id off)
 |eptr (b cap id n sz i off:Nat) (h:G.fl id n=some (.slice (some ⟨b,0,none⟩) n cap)):bA G (.pointer (some ⟨b,i*sz+off,none⟩)) (.eptr id n sz i off)
 |own (v:Value) (sz:Nat) (es:List D) (id:Nat) (h:G.fl id es.length=some v) (hd:DRel G.imm v (.sl sz es)):bA G v (.own sz es id)
 |ms (v:Value) (id n:Nat) (h:G.fl id n=some v) (h1:v.oneCell'=true):bA G v (.ms id n)
 | ag (vs : Array Value) (cs : List AV) (hl : vs.size = cs.length) (hone : ∀ c ∈ cs, c.one = true)
   (h:∀(i:Nat) (c:AV),cs[i]?=some c→bA G (gv vs.toList i) c):bA G (.agg vs) (.ag cs)
 | cH (vs : Array Value) (cs : List AV) (hl : vs.size = cs.length)
   (h:∀(i:Nat) (c:AV),cs[i]?=some c→bA G (gv vs.toList i) c):bA G (.tuple vs) (.cH cs)
 | fn (f : Fn) (vs ws : Array Value) (as bs : List AV) (hv : vs.size = as.length) (hw : ws.size = bs.length)
   (h:∀(i:Nat) (c:AV),as[i]?=some c→bA G (gv vs.toList i) c) (h':∀(i:Nat) (c:AV),bs[i]?=some c→bA G (gv ws.toList i) c) :
   bA G (.func f vs ws) (.fn f as bs)
 |mp (b id:Nat) (h:G.loc id=some b):bA G (.map (some b)) (.mp id)
 |it (b id:Nat) (h:G.loc id=some b):bA G (.pointer (some ⟨b,0,none⟩)) (.it id)
 |top (v:Value):bA G v .top
structure GLe(k:Nat)(G G':aO):Prop where
 base:G'.base=G.base
 imm0:G'.imm0=G.imm0
 own0:G'.own0=G.own0
 imm:dR G.imm G'.imm
 loc:∀id b,id<k→G.loc id=some b→G'.loc id=some b
 fl:∀id n v,id<k→G.fl id n=some v→G'.fl id n=some v
theorem GLe.refl(k:Nat)(G:aO):GLe k G G:=⟨rfl,rfl,rfl, .refl _,fun _ _ _ h=>h,fun _ _ _ _ h=>h⟩
theorem GLe.trans{k:Nat}{A B C:aO}(h:GLe k A B)(h':GLe k B C):GLe k A C :=
 ⟨h'.base.trans h.base,h'.imm0.trans h.imm0,h'.own0.trans h.own0,h.imm.trans h'.imm,fun i b hi hb=>h'.loc i b hi (h.loc i b hi hb),fun i n v hi hb=>h'.fl i n v hi (h.fl i n v hi hb)⟩
theorem GLe.weaken{k k':Nat}{A B:aO}(h:GLe k A B)(hk:k'≤k):GLe k' A B :=
 ⟨h.base,h.imm0,h.own0,h.imm,fun i b hi=>h.loc i b (Nat.lt_of_lt_of_le hi hk),fun i n v hi=>h.fl i n v (Nat.lt_of_lt_of_le hi hk)⟩
mutual
def AV.bnd(k:Nat):AV→Bool
 | .d _=>true
 | .ptr id _=>decide (id<k)
 | .eptr id _ _ _ _=>decide (id<k)
 | .own _ _ id=>decide (id<k)
 | .ms id _=>decide (id<k)
 | .ag cs=>AV.dF k cs
 | .cH cs=>AV.dF k cs
 | .fn _ as bs=>AV.dF k as&&AV.dF k bs
 | .mp id=>decide (id<k)
 | .it id=>decide (id<k)
 | .top=>true
def AV.dF(k:Nat):List AV→Bool
 |[]=>true
 |a::r=>AV.bnd k a&&AV.dF k r
end
theorem eY{k:Nat}:∀{l:List AV},AV.dF k l=true→∀{i:Nat} {c:AV},l[i]?=some c→AV.bnd k c=true:=by
 intro l
 induction l with
 |nil=>intro _ i c h;simp at h
 |cons a l ih =>
  intro h i c hc;simp only[AV.dF,Bool.and_eq_true]at h;cases i with
  |zero=>simp at hc;subst hc;exact h.1
  |succ i=>exact ih h.2 (by simpa using hc)
theorem bA.mono'{k:Nat}{G G':aO}(himm:dR G.imm G'.imm)(hloc:∀id b,id<k→G.loc id=some b→G'.loc id=some b)
  (hfl:∀id n v,id<k→G.fl id n=some v→G'.fl id n=some v) {v:Value} {a:AV} (h:bA G v a):a.bnd k=true→bA G' v a:=by
 induction h with
 |d v x h=>exact fun _ => .d v x (h.mono himm)
 |ptr b id off h=>exact fun hb => .ptr b id off (hloc id b (by simpa[AV.bnd,AV.dF]using hb) h)
 |eptr b cap id n sz i off h=>exact fun hb => .eptr b cap id n sz i off (hfl id n _ (by simpa[AV.bnd,AV.dF]using hb) h)
 |own v sz es id h hd=>exact fun hb => .own v sz es id (hfl id _ _ (by simpa[AV.bnd,AV.dF]using hb) h) (hd.mono himm)
 |ms v id n h h1=>exact fun hb => .ms v id n (hfl id _ _ (by simpa[AV.bnd,AV.dF]using hb) h) h1
 |ag vs cs hl hone h ih=>exact fun hb => .ag vs cs hl hone fun i c hc=>ih i c hc (eY (by simpa[AV.bnd,AV.dF]using hb) hc)
 |cH vs cs hl h ih=>exact fun hb => .cH vs cs hl fun i c hc=>ih i c hc (eY (by simpa[AV.bnd,AV.dF]using hb) hc)
 |fn f vs ws as bs hv hw h h' ih ih' =>
  intro hb;have hb':AV.dF k as=true∧AV.dF k bs=true:=by simpa[AV.bnd,AV.dF]using hb
  exact .fn f vs ws as bs hv hw (fun i c hc=>ih i c hc (eY hb'.1 hc)) (fun i c hc=>ih' i c hc (eY hb'.2 hc))
 |mp b id h=>exact fun hb => .mp b id (hloc id b (by simpa[AV.bnd,AV.dF]using hb) h)
 |it b id h=>exact fun hb => .it b id (hloc id b (by simpa[AV.bnd,AV.dF]using hb) h)
 |top v=>exact fun _ => .top v
theorem bA.mono{k:Nat}{G G':aO}(hle:GLe k G G'){v:Value}{a:AV}(h:bA G v a):a.bnd k=true→bA G' v a :=
 bA.mono' hle.imm hle.loc hle.fl h
theorem bA.oneCell{G:aO}{v:Value}{a:AV}(h:bA G v a)(h1:a.one=true):v.oneCell'=true:=by
 cases h with
 |d v x h=>exact h.oneCell h1
 |own v sz es id h hd=>exact hd.oneCell rfl
 |ms v id n h h2=>exact h2
 |_=>first|rfl|(simp[AV.one]at h1)
end
section
open Go Go.RowKit
inductive aN where
 |cells (cs:List AV)
 |front (e:TypeId) (sz n:Nat)
 |arr (e:TypeId) (sz:Nat) (es:List D)
 |map (es:List (D×D))
 |siter (s:ByteArray) (pos:Nat)
 |gone
def OB(G:aO)(id:Nat)(o:aN)(b:Nat):Prop :=
 match o with
 | .cells _ | .map _ | .siter _ _=>G.loc id=some b
 | .front _ _ n=>∃v,G.fl id n=some v∧v.ownBlock=some b
 | .arr _ _ es=>∃v,G.fl id es.length=some v∧v.ownBlock=some b
 | .gone=>False
def mJ(G:aO)(w:World)(id:Nat):aN→Prop
 | .cells cs => ∃ b cur t, G.loc id = some b ∧ w.heap[b]? = some (.cells cur t (0, 0)) ∧ cs.length ≤ cur.size ∧ (∀ c ∈ cs, c.one = true) ∧
   (∀(i:Nat) (c:AV),cs[i]?=some c→bA G (gv cur.toList i) c)∧G.imm b=[]
 | .front e sz n=>∃v xs,G.fl id n=some v∧w.ownsRow 0 e sz v n xs∧(∀b,v.ownBlock=some b→G.imm b=xs)∧(∀k,n<k→G.fl id k=none)
 | .arr e sz es => ∃ v xs, G.fl id es.length = some v ∧ w.ownsRow 0 e sz v es.length xs ∧ (∀ x ∈ es, x.cells.length = sz) ∧ (∀ x ∈ es, ∀ c ∈ x.cells, c.one = true) ∧
   (∀(i:Nat) (x:D) (j:Nat) (c:D),es[i]?=some x→x.cells[j]?=some c→DRel G.imm (gv xs (i*sz+j)) c)∧(∀b,v.ownBlock=some b→G.imm b=[])∧(∀k,es.length<k→G.fl id k=none)
 | .map es => ∃ b ents clock, G.loc id = some b ∧ w.heap[b]? = some (.map ents clock) ∧ G.imm b = [] ∧ ents.size = es.length ∧ clock = ents.size ∧ (∀ (i : Nat) (en : MapEntry), ents[i]? = some en → en.born = i) ∧
   (∀(i:Nat) (k v:D),es[i]?=some (k,v)→∃en,ents[i]?=some en∧DRel G.imm en.key k∧DRel G.imm en.val v)
 | .siter s pos=>∃b,G.loc id=some b∧w.heap[b]?=some (.stringIter s pos)∧G.imm b=[]
 | .gone=>True
structure bM(gl:List (Nat×List D))(G:aO)(H:List aN)(w:World):Prop where
 os:w.os=G.base.os
 tape:w.tape=G.base.tape
 output:w.output=G.base.output
 size:G.base.heap.size≤w.heap.size
 old:∀b,b<G.base.heap.size→¬G.own0 b→w.heap[b]?=G.base.heap[b]?∧G.imm b=G.imm0 b
 imm:∀b i,i<(G.imm b).length→w.cell? ⟨b,i,none⟩=some (gv (G.imm b) i)
 obj:∀id o,H[id]?=some o→mJ G w id o
 own:∀id o b,H[id]?=some o→OB G id o b→G.own0 b∨G.base.heap.size≤b
 inj:∀id o id' o' b,H[id]?=some o→H[id']?=some o'→OB G id o b→OB G id' o' b→id=id'
 lim:∀id,H.length≤id→G.loc id=none∧∀n,G.fl id n=none
 glob:∀g cs,(g,cs)∈gl→DRel G.imm (.pointer (some ⟨g,0,none⟩)) (.iptr cs)
theorem wo{k:Nat}:∀{l:List AV},(∀(i:Nat) (c:AV),l[i]?=some c→AV.bnd k c=true)→AV.dF k l=true:=by
 intro l
 induction l with
 |nil=>intro _;simp[AV.dF]
 |cons a l ih =>
  intro h;have h0:=h 0 a rfl;have h1:=ih fun i c hc=>h (i+1) c (by simpa using hc)
  simp[AV.dF,h0,h1]
theorem bA.bnd{k:Nat}{G:aO}(hl:∀id,k≤id→G.loc id=none∧∀n,G.fl id n=none){v:Value}{a:AV}(h:bA G v a):a.bnd k=true:=by
 have lt1:∀{id b},G.loc id=some b→id<k:=fun {id b} h=>by
  rcases Nat.lt_or_ge id k with h'|h'
  ·exact h'
  ·rw[(hl id h').1]at h;cases h
 have lt2:∀{id n b},G.fl id n=some b→id<k:=fun {id n b} h=>by
  rcases Nat.lt_or_ge id k with h'|h'
  ·exact h'
  ·rw[(hl id h').2]at h;cases h
 induction h with
 |d v x h=>simp[AV.bnd,AV.dF]
 |ptr b id off h=>simp[AV.bnd,AV.dF,lt1 h]
 |eptr b cap id n sz i off h=>simp[AV.bnd,AV.dF,lt2 h]
 |own v sz es id h hd=>simp[AV.bnd,AV.dF,lt2 h]
 |ms v id n h h1=>simp[AV.bnd,AV.dF,lt2 h]
 |ag vs cs hl hone h ih=>simpa[AV.bnd,AV.dF]using wo ih
 |cH vs cs hl h ih=>simpa[AV.bnd,AV.dF]using wo ih
 |fn f vs ws as bs hv hw h h' ih ih' =>
  have h1:=wo ih;have h2:=wo ih';simp[AV.bnd,AV.dF,h1,h2]
 |mp b id h=>simp[AV.bnd,AV.dF,lt1 h]
 |it b id h=>simp[AV.bnd,AV.dF,lt1 h]
 |top v=>simp[AV.bnd,AV.dF]
section
variable {gl:List (Nat×List D)}{G G':aO}{H:List aN}{w w':World}
theorem bM.up(hW:bM gl G H w)(hle:GLe H.length G G'){v:Value}{a:AV}(h:bA G v a):bA G' v a :=
 h.mono hle (h.bnd hW.lim)
theorem mJ.lt{id:Nat}{o:aN}{b:Nat}(h:mJ G w id o)(hb:OB G id o b):b<w.heap.size:=by
 have key:∀{x:Obj},w.heap[b]?=some x→b<w.heap.size:=fun {x} h=>(Array.getElem?_eq_some_iff.1 h).1
 cases o with
 |cells cs =>
  obtain⟨b',cur,t,h1,h2,_⟩:=h;simp only[OB]at hb;rw[h1]at hb;cases hb;exact key h2
 |front e sz n =>
  obtain⟨v,xs,h1,h2,_⟩:=h;obtain⟨v',h1',hv⟩:=hb;rw[h1]at h1';cases h1';exact (h2.lt _ hv).2
 |arr e sz es =>
  obtain⟨v,xs,h1,h2,_⟩:=h;obtain⟨v',h1',hv⟩:=hb;rw[h1]at h1';cases h1';exact (h2.lt _ hv).2
 |map es =>
  obtain⟨b',ents,clock,h1,h2,_⟩:=h;simp only[OB]at hb;rw[h1]at hb;cases hb;exact key h2
 |siter s pos =>
  obtain⟨b',h1,h2,_⟩:=h;simp only[OB]at hb;rw[h1]at hb;cases hb;exact key h2
 |gone=>exact hb.elim
theorem OB.back{id:Nat}{o:aN}{b k:Nat}(hle:GLe k G G')(hk:id<k)(h:mJ G w id o)(hb:OB G' id o b):OB G id o b:=by
 cases o with
 |cells cs =>
  obtain⟨b',cur,t,h1,h2,_⟩:=h;simp only[OB]at hb ⊢;rw[hle.loc id _ hk h1]at hb;cases hb;exact h1
 |front e sz n =>
  obtain⟨v,xs,h1,h2,_⟩:=h;obtain⟨v',h1',hv⟩:=hb;rw[hle.fl id _ _ hk h1]at h1';cases h1';exact⟨v,h1,hv⟩
 |arr e sz es =>
  obtain⟨v,xs,h1,h2,_⟩:=h;obtain⟨v',h1',hv⟩:=hb;rw[hle.fl id _ _ hk h1]at h1';cases h1';exact⟨v,h1,hv⟩
 |map es =>
  obtain⟨b',ents,clock,h1,h2,_⟩:=h;simp only[OB]at hb ⊢;rw[hle.loc id _ hk h1]at hb;cases hb;exact h1
 |siter s pos =>
  obtain⟨b',h1,h2,_⟩:=h;simp only[OB]at hb ⊢;rw[hle.loc id _ hk h1]at hb;cases hb;exact h1
 |gone=>exact hb.elim
theorem sS{e:TypeId}{sz:Nat}{v:Value}{n:Nat}{xs:List Value}(h:w.ownsRow 0 e sz v n xs)(hs:∀b,v.ownBlock=some b→w'.heap[b]?=w.heap[b]?):
  w'.ownsRow 0 e sz v n xs:=by
 refine⟨h.1,?_⟩;rcases h.2 with hn|⟨g,cap,cur,rfl,hb,hgg,rest⟩
 ·exact .inl hn
 ·exact .inr ⟨g,cap,cur,rfl,hb,by rw[hs g rfl];exact hgg,rest⟩
theorem mJ.keep{id:Nat}{o:aN}{k:Nat}(hle:GLe k G G')(hk:id<k)(hl:∀id,k≤id→G.loc id=none∧∀n,G.fl id n=none)(h:mJ G w id o)
  (hs:∀b,OB G id o b→w'.heap[b]?=w.heap[b]?∧G'.imm b=G.imm b) (hfl:∀n,G'.fl id n=G.fl id n):mJ G' w' id o:=by
 cases o with
 |cells cs =>
  obtain⟨b,cur,t,h1,h2,h3,h4,h5,h6⟩:=h;obtain⟨s1,s2⟩:=hs b h1;exact⟨b,cur,t,hle.loc id b hk h1,s1.trans h2,h3,h4,fun i c hc=>(h5 i c hc).mono hle ((h5 i c hc).bnd hl),s2.trans h6⟩
 |front e sz n =>
  obtain⟨v,xs,h1,h2,h3,h4⟩:=h;refine⟨v,xs,hle.fl id _ _ hk h1,sS h2 fun b hb=>(hs b ⟨v,h1,hb⟩).1,fun b hb=>?_,fun k hk=>by rw[hfl];exact h4 k hk⟩;rw[(hs b ⟨v,h1,hb⟩).2];exact h3 b hb
 |arr e sz es =>
  obtain⟨v,xs,h1,h2,h3,h3',h4,h5,h6⟩:=h;refine⟨v,xs,hle.fl id _ _ hk h1,sS h2 fun b hb=>(hs b ⟨v,h1,hb⟩).1,h3,h3',fun i x j c hx hc=>(h4 i x j c hx hc).mono hle.imm,fun b hb=>?_,fun k hk=>by rw[hfl];exact h6 k hk⟩;rw[(hs b ⟨v,h1,hb⟩).2];exact h5 b hb
 | map es =>
  obtain⟨b,ents,clock,h1,h2,h3,h4,h6,h7,h5⟩:=h;obtain⟨s1,s2⟩:=hs b h1;exact⟨b,ents,clock,hle.loc id b hk h1,s1.trans h2,s2.trans h3,h4,h6,h7,fun i k v hi=>by
   obtain⟨en,e1,e2,e3⟩:=h5 i k v hi;exact⟨en,e1,e2.mono hle.imm,e3.mono hle.imm⟩⟩
 |siter s pos =>
  obtain⟨b,h1,h2,h3⟩:=h;obtain⟨s1,s2⟩:=hs b h1;exact⟨b,hle.loc id b hk h1,s1.trans h2,s2.trans h3⟩
 |gone=>trivial
theorem bM.step(hW:bM gl G H w)(hle:GLe H.length G G')(hos:w'.os=w.os)(htape:w'.tape=w.tape)(hout:w'.output=w.output)(hsz:w.heap.size≤w'.heap.size)
  (j:Nat) (o:aN) (H':List aN) (hlen:H.length≤H'.length) (hH1:H'[j]?=some o) (hH2:∀id,id≠j→H'[id]?=H[id]?)
  (hfl:∀id,id<H.length→id≠j→∀k,G'.fl id k=G.fl id k)
  (hkeep:∀b,b<w.heap.size→(∀oj,H[j]?=some oj→¬OB G j oj b)→w'.heap[b]?=w.heap[b]?∧G'.imm b=G.imm b)
  (himm:∀b,(w.heap.size≤b∨∃oj,H[j]?=some oj∧OB G j oj b)→∀i,i<(G'.imm b).length→w'.cell? ⟨b,i,none⟩=some (gv (G'.imm b) i))
  (hobj:mJ G' w' j o)
  (hown:∀b,OB G' j o b→w.heap.size≤b∨∃oj,H[j]?=some oj∧OB G j oj b)
  (hlim:∀id,H'.length≤id→G'.loc id=none∧∀n,G'.fl id n=none):bM gl G' H' w':=by
 have other:∀id o',id≠j→H[id]?=some o'→∀b,OB G id o' b→∀oj,H[j]?=some oj→¬OB G j oj b :=
  fun id o' hne ho b hb oj hj hbj=>hne (hW.inj id o' j oj b ho hj hb hbj)
 have keepO:∀id o',id≠j→H[id]?=some o'→mJ G' w' id o':=fun id o' hne ho =>
  mJ.keep hle (aI ho) hW.lim (hW.obj id o' ho) (fun b hb=>hkeep b ((hW.obj id o' ho).lt hb) (other id o' hne ho b hb)) (hfl id (aI ho) hne)
 refine⟨?_,?_,?_,?_,?_,?_,?_,?_,?_,hlim,?_⟩
 ·rw[hos,hW.os,hle.base]
 ·rw[htape,hW.tape,hle.base]
 ·rw[hout,hW.output,hle.base]
 ·rw[hle.base];exact Nat.le_trans hW.size hsz
 ·intro b hb hn;rw[hle.base]at hb ⊢;rw[hle.own0]at hn;rw[hle.imm0];obtain⟨o1,o2⟩:=hW.old b hb hn
  obtain⟨k1,k2⟩:=hkeep b (Nat.lt_of_lt_of_le hb hW.size) (fun oj hj hbj=>by
   rcases hW.own j oj b hj hbj with h|h
   ·exact hn h
   ·omega)
  exact⟨k1.trans o1,k2.trans o2⟩
 ·intro b i hi;by_cases hc:w.heap.size≤b∨∃oj,H[j]?=some oj∧OB G j oj b
  ·exact himm b hc i hi
  ·have hb:b<w.heap.size:=by
    rcases Nat.lt_or_ge b w.heap.size with h|h
    ·exact h
    ·exact (hc (.inl h)).elim
   obtain⟨k1,k2⟩:=hkeep b hb (fun oj hj hbj=>hc (.inr ⟨oj,hj,hbj⟩));rw[k2]at hi ⊢;rw[World.cell?_of_block (w:=w) (a:=⟨b,i,none⟩) k1];exact hW.imm b i hi
 ·intro id o' ho;by_cases hne:id=j
  ·subst hne;rw[hH1]at ho;cases ho;exact hobj
  ·exact keepO id o' hne (by rwa [hH2 id hne]at ho)
 ·intro id o' b ho hb;rw[hle.own0,hle.base];by_cases hne:id=j
  ·subst hne;rw[hH1]at ho;cases ho;rcases hown b hb with h|⟨oj,hj,hbj⟩
   ·exact .inr (Nat.le_trans hW.size h)
   ·exact hW.own _ oj b hj hbj
  ·have ho':H[id]?=some o':=by rwa [hH2 id hne]at ho
   exact hW.own id o' b ho' (OB.back hle (aI ho') (hW.obj id o' ho') hb)
 ·intro id o1 id' o2 b h1 h2 hb1 hb2;have mix:∀id o',id≠j→H'[id]?=some o'→OB G' id o' b→OB G' j o b→False:=fun id o' hne ho hb hbj=>by
   have ho':H[id]?=some o':=by rwa [hH2 id hne]at ho
   have hb':=OB.back hle (aI ho') (hW.obj id o' ho') hb;rcases hown b hbj with h|⟨oj,hj,hbj⟩
   ·have:=(hW.obj id o' ho').lt hb';omega
   ·exact other id o' hne ho' b hb' oj hj hbj
  by_cases e1:id=j
  ·by_cases e2:id'=j
   ·rw[e1,e2]
   ·subst e1;rw[hH1]at h1;cases h1;exact (mix id' o2 e2 h2 hb2 hb1).elim
  ·by_cases e2:id'=j
   ·subst e2;rw[hH1]at h2;cases h2;exact (mix id o1 e1 h1 hb1 hb2).elim
   ·have h1':H[id]?=some o1:=by rwa [hH2 id e1]at h1
    have h2':H[id']?=some o2:=by rwa [hH2 id' e2]at h2
    exact hW.inj id o1 id' o2 b h1' h2' (OB.back hle (aI h1') (hW.obj id o1 h1') hb1) (OB.back hle (aI h2') (hW.obj id' o2 h2') hb2)
 ·exact fun g cs hg=>(hW.glob g cs hg).mono hle.imm
theorem bM.same(hW:bM gl G H w)(hos:w'.os=w.os)(htape:w'.tape=w.tape)(hout:w'.output=w.output)(hh:w'.heap=w.heap):bM gl G H w':=by
 have hc:∀a,w'.cell? a=w.cell? a:=fun a=>by simp[World.cell?,hh]
 refine⟨by rw[hos,hW.os],by rw[htape,hW.tape],by rw[hout,hW.output],by rw[hh];exact hW.size,by rw[hh];exact hW.old,fun b i hi=>by rw[hc];exact hW.imm b i hi,?_,hW.own,hW.inj,hW.lim,hW.glob⟩;intro id o ho;exact mJ.keep (GLe.refl H.length G) (aI ho) hW.lim (hW.obj id o ho) (fun b _=>⟨by rw[hh],rfl⟩) (fun _=>rfl)
end
end
section
open Go Go.RowKit
inductive Sh where
 |other|bool|int (k:IntKind)|str|struct (fs:List (Nat×Nat))|array (len:Nat) (e:Nat)|slice (e:Nat)|map (k v:Nat)|ptr (e:Nat)
structure TI where
 size:Nat
 bytes:Nat
 agg:Bool
 zero:List D
 sh:Sh
def aY{α:Type}:List (Nat×α)→Nat→Option α
 |[],_=>none
 |(j,x)::r,t=>bif Nat.beq j t then some x else aY r t
def jN:List Value→List D→Bool
 |[],[]=>true
 | .bool a::r, .bool b::s=>a==b&&jN r s
 | .int k a::r, .int l b::s=>decide (k=l)&&decide (a=b)&&jN r s
 | .string a::r, .str []::s=>a.data.isEmpty&&jN r s
 | .pointer none::r, .nilp::s=>jN r s
 | .slice none 0 0::r, .aU::s=>jN r s
 | .map none::r, .nilm::s=>jN r s
 | .nilFunc::r, .top::s=>jN r s
 | .nilIface::r, .top::s=>jN r s
 |_,_=>false
def eQ(P:Program):List Field→List (Nat×Nat)→Bool
 |[],[]=>true
 |f::r,(o,t)::s=>f.offset==o&&f.type==t&&(match P.info? f.type with|some i=>i.size != 0|none=>false)&&eQ P r s
 |_,_=>false
def qX(P:Program):Option TypeDesc→Sh→Bool
 |some _, .other=>true
 |some .bool, .bool=>true
 |some (.int k), .int k'=>decide (k=k')
 |some .string, .str=>true
 |some (.struct fs), .struct gs=>eQ P fs.toList gs
 |some (.array n e), .array m e'=>n==m&&e==e'
 |some (.slice e), .slice e'=>e==e'
 |some (.pointer e), .ptr e'=>e==e'
 |some (.map k v), .map k' v'=>k==k'&&v==v'
 |_,_=>false
def AA:Option TypeDesc→Bool
 |some (.struct _)|some (.array _ _)=>true
 |_=>false
def LZ(P:Program)(t:Nat)(ti:TI):Bool :=
 match P.info? t with
 |none=>false
 | some i => i.size == ti.size && i.bytes == ti.bytes && (match i.zero with | some z => jN z.cells.toList ti.zero | none => false) && qX P (P.underlying t) ti.sh &&
   (AA (P.underlying t)==ti.agg)&&ti.zero.length==ti.size&&(ti.agg||ti.size==1)
def Du(P:Program):List (Nat×TI)→Bool
 |[]=>true
 |(t,ti)::r=>LZ P t ti&&Du P r
structure Ctx where
 P:Program
 T:List (Nat×TI)
 gl:List (Nat×List D)
 ok:Du P T=true
 mixed:P.follows .mixedOrders=true
theorem CI{P:Program}:∀{T:List (Nat×TI)},Du P T=true→∀{t:Nat} {ti:TI},aY T t=some ti→LZ P t ti=true
 |[],_,_,_,h=>by cases h
 | (j, x) :: r, hT, t, ti, h => by
  simp only[Du,Bool.and_eq_true]at hT;simp only[aY]at h;cases hb:Nat.beq j t with
  |true =>
   rw[hb]at h;cases h;have:=Nat.eq_of_beq_eq_true hb;subst this;exact hT.1
  |false=>rw[hb]at h;exact CI hT.2 h
theorem yT{α:Type}:∀{T:List (Nat×α)} {t:Nat} {x:α},aY T t=some x→(t,x)∈T
 |[],_,_,h=>by cases h
 | (j, y) :: r, t, x, h => by
  simp only[aY]at h;cases hb:Nat.beq j t with
  |true =>
   rw[hb]at h;cases h;have:=Nat.eq_of_beq_eq_true hb;subst this;exact List.mem_cons_self
  |false=>rw[hb]at h;exact List.mem_cons_of_mem _ (yT h)
abbrev Env:=List (Nat×AV)
def Env.get:Env→Nat→AV
 |[],_ => .top
 |(j,v)::r,i=>bif Nat.beq j i then v else Env.get r i
structure df(G:aO)(nt:Nat)(tmps:Array Value)(env:Env):Prop where
 size:tmps.size=nt
 rel:∀i,bA G (tmps.getD i undef) (Env.get env i)
def Gn:Value→AV
 | .bool b => .d (.bool b)
 | .int k n => .d (.int k n)
 | .string s => .d (.str s.data.toList)
 | .pointer none => .d .nilp
 | .slice none 0 0 => .d .aU
 | .nilFunc => .d .nilf
 |_ => .top
def ev(Γ:Ctx)(env:Env):Operand→AV
 | .tmp t=>env.get t
 | .const v=>Gn v
 | .global g=>match aY Γ.gl g with|some cs => .d (.iptr cs)|none => .top
 | .func f => .fn (.func f) [] []
def hget:List aN→Nat→Option aN
 |[],_=>none
 |o::_,0=>some o
 |_::r,n+1=>hget r n
theorem dA:∀(H:List aN) (n:Nat),hget H n=H[n]?
 |[],n=>by simp[hget]
 |o::r,0=>by simp[hget]
 |o::r,n+1=>by simp[hget,dA r n]
def Hs(k:IntKind)(n:Int):Option (Prop×AV) :=
 match k with
 | .i64=>some (-9223372036854775808≤n∧n≤9223372036854775807, .d (.int .i64 n))
 | .i32=>some (-2147483648≤n∧n≤2147483647, .d (.int .i32 n))
 | .u8=>some (True, .d (.int .u8 (n%256)))
 | .u32=>some (True, .d (.int .u32 (n%4294967296)))
 | .u64=>some (True, .d (.int .u64 (n%18446744073709551616)))
 |_=>none
def Kc(k:IntKind)(n:Int):Option (Prop×AV) :=
 match k with
 | .i64=>some (-9223372036854775808≤n∧n≤9223372036854775807, .d (.int .i64 n))
 | .i32=>some (-2147483648≤n∧n≤2147483647, .d (.int .i32 n))
 | .u8=>some (True, .d (.int .u8 (n%256)))
 | .u32=>some (0≤n∧n≤4294967295, .d (.int .u32 n))
 | .u64=>some (0≤n∧n≤18446744073709551615, .d (.int .u64 n))
 |_=>none
theorem wrap_i64{n:Int}(h : -9223372036854775808≤n∧n≤9223372036854775807):IntKind.i64.wrap n=n:=by
 have e:IntKind.i64.wrap n=if 9223372036854775808≤n%18446744073709551616 then n%18446744073709551616-18446744073709551616 else n%18446744073709551616:=by
  simp[IntKind.wrap,IntKind.signed,IntKind.bits]
 rw[e];split<;>omega
theorem wrap_i32{n:Int}(h : -2147483648≤n∧n≤2147483647):IntKind.i32.wrap n=n:=by
 have e:IntKind.i32.wrap n=if 2147483648≤n%4294967296 then n%4294967296-4294967296 else n%4294967296:=by
  simp[IntKind.wrap,IntKind.signed,IntKind.bits]
 rw[e];split<;>omega
theorem wrap_u8(n:Int):IntKind.u8.wrap n=n%256:=by simp[IntKind.wrap,IntKind.signed,IntKind.bits]
theorem wrap_u32(n:Int):IntKind.u32.wrap n=n%4294967296:=by simp[IntKind.wrap,IntKind.signed,IntKind.bits]
theorem wrap_u64(n:Int):IntKind.u64.wrap n=n%18446744073709551616:=by simp[IntKind.wrap,IntKind.signed,IntKind.bits]
theorem qM{G:aO}{k:IntKind}{n:Int}{c:Prop}{v:AV}(h:Hs k n=some (c,v))(hc:c):bA G (.int k (k.wrap n)) v:=by
 cases k<;>simp only[Hs,Option.some.injEq,Prod.mk.injEq,reduceCtorEq]at h<;>obtain⟨rfl,rfl⟩:=h
 case i64=>rw[wrap_i64 hc];exact .d _ _ (.int ..)
 case i32=>rw[wrap_i32 hc];exact .d _ _ (.int ..)
 case u8=>rw[wrap_u8];exact .d _ _ (.int ..)
 case u32=>rw[wrap_u32];exact .d _ _ (.int ..)
 case u64=>rw[wrap_u64];exact .d _ _ (.int ..)
theorem xp{G:aO}{k:IntKind}{n:Int}{c:Prop}{v:AV}(h:Kc k n=some (c,v))(hc:c):bA G (.int k (k.wrap n)) v:=by
 cases k<;>simp only[Kc,Option.some.injEq,Prod.mk.injEq,reduceCtorEq]at h<;>obtain⟨rfl,rfl⟩:=h
 case i64=>rw[wrap_i64 hc];exact .d _ _ (.int ..)
 case i32=>rw[wrap_i32 hc];exact .d _ _ (.int ..)
 case u8=>rw[wrap_u8];exact .d _ _ (.int ..)
 case u32=>rw[wrap_u32,Int.emod_eq_of_lt hc.1 (by omega)];exact .d _ _ (.int ..)
 case u64=>rw[wrap_u64,Int.emod_eq_of_lt hc.1 (by omega)];exact .d _ _ (.int ..)
def Dk(k:IntKind)(x y:Int)(f:Nat→Nat→Nat):Option (Prop×AV) :=
 match k with
 | .i64=>some ((0≤x∧x≤9223372036854775807)∧0≤y∧y≤9223372036854775807, .d (.int .i64 (f x.toNat y.toNat:Nat)))
 | .u8=>some ((0≤x∧x≤255)∧0≤y∧y≤255, .d (.int .u8 (f x.toNat y.toNat:Nat)))
 | .u32=>some ((0≤x∧x≤4294967295)∧0≤y∧y≤4294967295, .d (.int .u32 (f x.toNat y.toNat:Nat)))
 | .u64=>some ((0≤x∧x≤18446744073709551615)∧0≤y∧y≤18446744073709551615, .d (.int .u64 (f x.toNat y.toNat:Nat)))
 |_=>none
def Mq(k:IntKind)(x:Int)(n:Nat):Option (Prop×AV) :=
 match k with
 | .i64=>some (n≤64 ∧ -9223372036854775808≤x*2^n∧x*2^n≤9223372036854775807, .d (.int .i64 (x*2^n)))
 | .u8=>some (n≤8, .d (.int .u8 (x*2^n%256)))
 | .u32=>some (n≤32, .d (.int .u32 (x*2^n%4294967296)))
 | .u64=>some (n≤64, .d (.int .u64 (x*2^n%18446744073709551616)))
 |_=>none
def Qb(nn:Bool)(op:BinOp)(k:IntKind)(x y:Int):Option (Prop×AV) :=
 match op with
 | .add=>Hs k (x+y)
 | .sub=>Hs k (x-y)
 | .mul=>Hs k (x*y)
 | .quo=>match k,nn with
  | .i64,true=>some ((0≤x∧x≤9223372036854775807)∧0<y, .d (.int .i64 (x/y)))
  | .i64,false=>some ((-9223372036854775808≤x.tdiv y∧x.tdiv y≤9223372036854775807)∧y≠0, .d (.int .i64 (x.tdiv y)))
  | .u64,_=>some ((0≤x∧x≤18446744073709551615)∧0<y, .d (.int .u64 (x/y)))
  | .u8,_=>some ((0≤x∧x≤255)∧0<y, .d (.int .u8 (x/y)))
  |_,_=>none
 | .rem=>bif nn then some (0≤x∧0<y, .d (.int k (x%y))) else some (y≠0, .d (.int k (x.tmod y)))
 | .and=>Dk k x y (· &&& ·)
 | .or=>Dk k x y (· |||·)
 | .xor=>Dk k x y (· ^^^ ·)
 | .eql=>some (True, .d (.bool (decide (x=y))))
 | .neq=>some (True, .d (.bool (!decide (x=y))))
 | .lss=>some (True, .d (.bool (decide (x<y))))
 | .leq=>some (True, .d (.bool (decide (x≤y))))
 | .gtr=>some (True, .d (.bool (decide (y<x))))
 | .geq=>some (True, .d (.bool (decide (y≤x))))
 |_=>none
def QS(nn:Bool)(op:BinOp)(a b:AV):Option (Prop×AV) :=
 match op,a,b with
 | .shl, .d (.int k x), .d (.int _ y)=>match Mq k x y.toNat with|some (c,v)=>some (0≤y∧c,v)|none=>none
 | .shr, .d (.int k x), .d (.int _ y)=>some (0≤y∧y.toNat≤k.bits, .d (.int k (x/2^y.toNat)))
 |op, .d (.int k x), .d (.int k' y)=>bif decide (k=k') then Qb nn op k x y else none
 | .add, .d (.str s), .d (.str t)=>some (s.length+t.length≤9223372036854775807, .d (.str (s++t)))
 | .eql, .d (.str s), .d (.str t)=>some (True, .d (.bool (decide (s=t))))
 | .neq, .d (.str s), .d (.str t)=>some (True, .d (.bool (!decide (s=t))))
 |_,_,_=>none
theorem pX(w:Nat){x:Int}(h0:0≤x)(h:x.toNat<2^w):(BitVec.ofInt w x).toNat=x.toNat:=by
 obtain⟨n,rfl⟩:=Int.eq_ofNat_of_zero_le h0;simp only[Int.toNat_natCast]at h ⊢;rw[BitVec.ofInt_natCast,BitVec.toNat_ofNat,Nat.mod_eq_of_lt h]
section
variable {P:Program}{G:aO}{w:World}{nn:Bool}
theorem xR{k:IntKind}{x y:Int}{op:BinOp}{f:Nat→Nat→Nat}(hop:(op = .and∧f=(· &&& ·))∨(op = .or∧f=(· |||·))∨(op = .xor∧f=(· ^^^ ·))){c:Prop}{v:AV}
  (h:Dk k x y f=some (c,v)) (hc:c):∃r,bA G r v∧∀w,(Op.intBits op k x y).run P w = .ok r w:=by
 have key:∀(m:Nat),(m=8∨m=32∨m=64∨m=63)→x.toNat<2^m→y.toNat<2^m→f x.toNat y.toNat<2^m:=fun m _ h1 h2=>by
  rcases hop with⟨_,rfl⟩|⟨_,rfl⟩|⟨_,rfl⟩
  ·exact Nat.and_lt_two_pow _ h2
  ·exact Nat.or_lt_two_pow h1 h2
  ·exact Nat.xor_lt_two_pow h1 h2
 have gen:∀(m:Nat),k.bits=m→0≤x→0≤y→x.toNat<2^m→y.toNat<2^m→k.wrap (f x.toNat y.toNat:Nat)=(f x.toNat y.toNat:Nat) →
   ∀w,(Op.intBits op k x y).run P w = .ok (.int k (f x.toNat y.toNat:Nat)) w:=fun m hm h0 h1 h2 h3 h4 w=>by
  subst hm;have e1:=pX k.bits h0 h2;have e2:=pX k.bits h1 h3;rcases hop with⟨rfl,rfl⟩|⟨rfl,rfl⟩|⟨rfl,rfl⟩ <;>
   simp only[Op.intBits,Sem.run_pure,BitVec.toNat_and,BitVec.toNat_or,BitVec.toNat_xor,e1,e2]<;>rw[h4]
 cases k<;>simp only[Dk,Option.some.injEq,Prod.mk.injEq,reduceCtorEq]at h<;>obtain⟨rfl,rfl⟩:=h<;>obtain⟨⟨a0,a1⟩,b0,b1⟩:=hc
 case i64 =>
  have hh:=key 63 (by simp) (by omega) (by omega);exact⟨_, .d _ _ (.int ..),gen 64 rfl a0 b0 (by omega) (by omega) (wrap_i64 (by omega))⟩
 case u8 =>
  have hh:=key 8 (by simp) (by omega) (by omega);exact⟨_, .d _ _ (.int ..),gen 8 rfl a0 b0 (by omega) (by omega) (by rw[wrap_u8];omega)⟩
 case u32 =>
  have hh:=key 32 (by simp) (by omega) (by omega);exact⟨_, .d _ _ (.int ..),gen 32 rfl a0 b0 (by omega) (by omega) (by rw[wrap_u32];omega)⟩
 case u64 =>
  have hh:=key 64 (by simp) (by omega) (by omega);exact⟨_, .d _ _ (.int ..),gen 64 rfl a0 b0 (by omega) (by omega) (by rw[wrap_u64];omega)⟩
theorem Nz{op:BinOp}{k:IntKind}{x y:Int}{c:Prop}{v:AV}(h:Qb nn op k x y=some (c,v))(hc:c)(hs:op ≠ .shl)(hs':op ≠ .shr)(t:TypeId):
  ∃r,bA G r v∧∀w,(binOp op t (.int k x) (.int k y)).run P w = .ok r w:=by
 cases op<;>simp only[Qb,reduceCtorEq]at h<;>try contradiction
 case add=>exact⟨_,qM h hc,fun w=>by simp[binOp,Op.intArith]⟩
 case sub=>exact⟨_,qM h hc,fun w=>by simp[binOp,Op.intArith]⟩
 case mul=>exact⟨_,qM h hc,fun w=>by simp[binOp,Op.intArith]⟩
 case and =>
  obtain⟨r,h1,h2⟩:=xR (P:=P) (G:=G) (.inl ⟨rfl,rfl⟩) h hc;exact⟨r,h1,fun w=>by simp[binOp,h2 w]⟩
 case or =>
  obtain⟨r,h1,h2⟩:=xR (P:=P) (G:=G) (.inr (.inl ⟨rfl,rfl⟩)) h hc;exact⟨r,h1,fun w=>by simp[binOp,h2 w]⟩
 case xor =>
  obtain⟨r,h1,h2⟩:=xR (P:=P) (G:=G) (.inr (.inr ⟨rfl,rfl⟩)) h hc;exact⟨r,h1,fun w=>by simp[binOp,h2 w]⟩
 case eql =>
  simp only[Option.some.injEq,Prod.mk.injEq]at h;obtain⟨rfl,rfl⟩:=h;exact⟨_, .d _ _ (.bool _),fun w=>by simp[binOp,Op.intCmp];rfl⟩
 case neq =>
  simp only[Option.some.injEq,Prod.mk.injEq]at h;obtain⟨rfl,rfl⟩:=h;exact⟨_, .d _ _ (.bool _),fun w=>by simp[binOp,Op.intCmp];rfl⟩
 case lss =>
  simp only[Option.some.injEq,Prod.mk.injEq]at h;obtain⟨rfl,rfl⟩:=h;exact⟨_, .d _ _ (.bool _),fun w=>by simp[binOp,Op.intCmp]⟩
 case leq =>
  simp only[Option.some.injEq,Prod.mk.injEq]at h;obtain⟨rfl,rfl⟩:=h;exact⟨_, .d _ _ (.bool _),fun w=>by simp[binOp,Op.intCmp]⟩
 case gtr =>
  simp only[Option.some.injEq,Prod.mk.injEq]at h;obtain⟨rfl,rfl⟩:=h;exact⟨_, .d _ _ (.bool _),fun w=>by simp[binOp,Op.intCmp]⟩
 case geq =>
  simp only[Option.some.injEq,Prod.mk.injEq]at h;obtain⟨rfl,rfl⟩:=h;exact⟨_, .d _ _ (.bool _),fun w=>by simp[binOp,Op.intCmp]⟩
 case rem =>
  cases nn<;>simp only[cond_true,cond_false,Option.some.injEq,Prod.mk.injEq]at h<;>obtain⟨rfl,rfl⟩:=h
  ·exact⟨_, .d _ _ (.int ..),fun w=>by simp[binOp,Op.intDiv,hc]⟩
  ·obtain⟨h0,h1⟩:=hc;exact⟨_, .d _ _ (.int ..),fun w=>by simp[binOp,Op.intDiv,Int.tmod_eq_emod_of_nonneg h0];omega⟩
 case quo =>
  cases k<;>cases nn<;>simp only[Option.some.injEq,Prod.mk.injEq,reduceCtorEq]at h<;>obtain⟨rfl,rfl⟩:=h
  case i64.true =>
   obtain⟨⟨h0,h1⟩,h2⟩:=hc;have hd:x/y≤x:=Int.ediv_le_self y h0;have hp:0≤x/y:=Int.ediv_nonneg h0 (by omega);have hwr:IntKind.i64.wrap (x/y)=x/y:=wrap_i64 ⟨by omega,by omega⟩;exact⟨_, .d _ _ (.int ..),fun w=>by
    simp only[binOp,Op.intDiv,if_neg (show ¬y=0 by omega),Int.tdiv_eq_ediv_of_nonneg h0,hwr];simp⟩
  case i64.false =>
   obtain⟨h1,h2⟩:=hc;exact⟨_, .d _ _ (.int ..),fun w=>by simp only[binOp,Op.intDiv,if_neg h2,wrap_i64 h1];simp⟩
  all_goals
   obtain⟨⟨h0,h1⟩,h2⟩:=hc;have hd:x/y≤x:=Int.ediv_le_self y h0;have hp:0≤x/y:=Int.ediv_nonneg h0 (by omega);refine⟨_, .d _ _ (.int ..),fun w=>?_⟩;simp only[binOp,Op.intDiv,if_neg (show ¬y=0 by omega),Int.tdiv_eq_ediv_of_nonneg h0,wrap_u64,wrap_u8];rw[Int.emod_eq_of_lt hp (by omega)];simp
theorem jW(op:BinOp)(t:TypeId)(xo yo:Operand)(k k':IntKind)(x y:Int)(w:World):(eqGuard op t xo yo (.int k x) (.int k' y)).run P w = .ok () w:=by
 unfold eqGuard;cases op<;>simp
theorem qm(op:BinOp)(t:TypeId)(xo yo:Operand)(x y:ByteArray)(w:World):(eqGuard op t xo yo (.string x) (.string y)).run P w = .ok () w:=by
 unfold eqGuard;cases op<;>simp
theorem bA.cT{v:Value}{k:IntKind}{x:Int}(h:bA G v (.d (.int k x))):v = .int k x:=by
 cases h with|d _ _ h=>cases h;rfl
theorem bA.fT{v:Value}{b:Bool}(h:bA G v (.d (.bool b))):v = .bool b:=by
 cases h with|d _ _ h=>cases h;rfl
theorem bA.gV{v:Value}{s:List UInt8}(h:bA G v (.d (.str s))):v = .string ⟨s.toArray⟩:=by
 cases h with|d _ _ h=>cases h;rfl
theorem OA(s t:List UInt8):(s==t)=decide (s=t):=by rw[Bool.eq_iff_iff];simp
theorem uf(s:ByteArray):s.toList=s.data.toList:=by
 rw[ByteArray.toList_eq]
theorem Fb{k:IntKind}{x y:Int}{yk:IntKind}{c:Prop}{v:AV}(h:Mq k x y.toNat=some (c,v))(hc:c)(h0:0≤y)(t:TypeId):
  ∃r,bA G r v∧∀w,(binOp .shl t (.int k x) (.int yk y)).run P w = .ok r w:=by
 cases k<;>simp only[Mq,Option.some.injEq,Prod.mk.injEq,reduceCtorEq]at h<;>obtain⟨rfl,rfl⟩:=h
 case i64 =>
  obtain⟨h1,h2⟩:=hc;exact⟨_, .d _ _ (.int ..),fun w=>by
   simp only[binOp,Op.shift,if_neg (show ¬y<0 by omega),IntKind.bits,Nat.min_eq_left h1,wrap_i64 h2];simp⟩
 all_goals
  refine⟨_, .d _ _ (.int ..),fun w=>?_⟩;simp only[binOp,Op.shift,if_neg (show ¬y<0 by omega),IntKind.bits,Nat.min_eq_left hc,wrap_u8,wrap_u32,wrap_u64];simp
theorem Oz{op:BinOp}{a b:AV}{c:Prop}{v:AV}{x y:Value}(hx:bA G x a)(hy:bA G y b)(h:QS nn op a b=some (c,v))(hc:c)(t:TypeId)(xo yo:Operand):
  ∃r,bA G r v∧∀w,(do eqGuard op t xo yo x y;binOp op t x y:Sem Value).run P w = .ok r w:=by
 unfold QS at h;split at h
 ·rename_i k x' yk y';cases hx.cT;cases hy.cT;split at h
  ·rename_i c' v' hq;simp only[Option.some.injEq,Prod.mk.injEq]at h;obtain⟨rfl,rfl⟩:=h;obtain⟨r,h1,h2⟩:=Fb (P:=P) (G:=G) (yk:=yk) hq hc.2 hc.1 t;exact⟨r,h1,fun w=>by simp[jW,h2]⟩
  ·cases h
 ·rename_i k x' yk y';cases hx.cT;cases hy.cT;simp only[Option.some.injEq,Prod.mk.injEq]at h;obtain⟨rfl,rfl⟩:=h;obtain⟨h0,h1⟩:=hc;exact⟨_, .d _ _ (.int ..),fun w=>by
   simp only[Sem.run_bind,jW,Result.andThen_ok,binOp,Op.shift,if_neg (show ¬y'<0 by omega),Nat.min_eq_left h1];rw[Int.fdiv_eq_ediv_of_nonneg _ (Int.le_of_lt (Int.pow_pos (by omega)))];simp⟩
 ·rename_i op' k x' k' y' hns hns';cases hx.cT;cases hy.cT;by_cases hk:k=k'
  ·subst hk;simp only[decide_true,cond_true]at h;obtain⟨r,h1,h2⟩:=Nz (P:=P) (G:=G) h hc (fun e=>by subst e;simp at hns) (fun e=>by subst e;simp at hns') t;exact⟨r,h1,fun w=>by simp[jW,h2]⟩
  ·simp only[hk,decide_false,cond_false,reduceCtorEq]at h
 ·rename_i s t';cases hx.gV;cases hy.gV;simp only[Option.some.injEq,Prod.mk.injEq]at h;obtain⟨rfl,rfl⟩:=h;refine⟨.string ⟨(s++t').toArray⟩,?_,fun w=>?_⟩
  ·have:=DRel.str (imm:=G.imm) ⟨(s++t').toArray⟩;exact .d _ _ (by simpa using this)
  ·simp only[Sem.run_bind,qm,Result.andThen_ok,binOp,Op.stringOp];have hm:¬(((⟨s.toArray⟩:ByteArray).size+(⟨t'.toArray⟩:ByteArray).size:Nat):Int)>IntKind.i64.max:=by
    simp[ByteArray.size,IntKind.max,IntKind.signed,IntKind.bits];omega
   rw[if_neg hm];simp only[Sem.run_pure];congr 2
 ·rename_i s t';cases hx.gV;cases hy.gV;simp only[Option.some.injEq,Prod.mk.injEq]at h;obtain⟨rfl,rfl⟩:=h;exact⟨_, .d _ _ (.bool _),fun w=>by simp only[Sem.run_bind,qm,Result.andThen_ok,binOp,Op.stringOp,uf,Sem.run_pure,OA]⟩
 ·rename_i s t';cases hx.gV;cases hy.gV;simp only[Option.some.injEq,Prod.mk.injEq]at h;obtain⟨rfl,rfl⟩:=h;exact⟨_, .d _ _ (.bool _),fun w=>by simp only[Sem.run_bind,qm,Result.andThen_ok,binOp,Op.stringOp,uf,Sem.run_pure,OA]⟩
 ·cases h
end
end
section
open Go Go.RowKit
def AV.unD:AV→Option D
 | .d x=>some x
 | .own sz es _=>some (.sl sz es)
 |_=>none
def wG:List AV→Option (List D)
 |[]=>some []
 |a::r=>match a.unD,wG r with
  |some x,some l=>some (x::l)
  |_,_=>none
def sW(cs:List AV):AV:=match wG cs with|some l => .d (.agg l)|none => .ag cs
def AV.zB:AV→Option Bool
 | .d (.bool b)=>some b
 |_=>none
def qI:Operand→Operand→Option Bool
 |_, .const (.bool false)=>some false
 | .const (.bool true),_=>some true
 |_,_=>none
def Ad(l:Option Bool)(c:Bool)(a b:AV):AV :=
 match l with
 |some false=>match a.zB with|some x => .d (.bool (c&&x))|none=>bif c then a else b
 |some true=>match b.zB with|some x => .d (.bool (c||x))|none=>bif c then a else b
 |none=>bif c then a else b
def vu(ti:TI)(cs:List AV)(off:Nat):Option AV :=
 bif ti.agg then (bif Nat.ble (off+ti.size) cs.length then some (sW ((cs.drop off).take ti.size)) else none) else cs[off]?
def kC(ti:TI)(cs:List D)(off:Nat):Option D :=
 bif ti.agg then (bif Nat.ble (off+ti.size) cs.length then some (.agg ((cs.drop off).take ti.size)) else none) else cs[off]?
def avs(Γ:Ctx)(env:Env)(l:Array Operand):List AV:=l.toList.map (ev Γ env)
def xB(Γ:Ctx)(s f:Nat):Option (Nat×Nat) :=
 match aY Γ.T s with
 |some { sh := .struct fs, .. }=>fs[f]?
 |_=>none
def AV.Hv:AV→Option Int
 | .d (.int .i64 x)=>some x
 |_=>none
def J5:Int→List AV→Option AV
 |x,[]=>some (.d (.int .i64 x))
 |x,a::r=>match a.Hv with|some y=>J5 (max x y) r|none=>none
def JN:Int→List AV→Option AV
 |x,[]=>some (.d (.int .i64 x))
 |x,a::r=>match a.Hv with|some y=>JN (min x y) r|none=>none
def RS:List AV→Option AV
 |[]=>none
 |a::r=>match a.Hv with|some y=>J5 y r|none=>none
def RQ:List AV→Option AV
 |[]=>none
 |a::r=>match a.Hv with|some y=>JN y r|none=>none
def P9(a:AV):Option Int :=
 match a with
 | .d (.sl _ es)=>some es.length
 | .d .aU=>some 0
 | .own _ es _=>some es.length
 |_=>none
def bt(s:List UInt8)(i:Nat):Int:=((s.getD i 0).toNat:Int)
def M0(a b:AV):Option Bool :=
 match a,b with
 | .d .nilp, .d .nilp=>some true
 | .d .nilp, .ptr _ _=>some false
 | .ptr _ _, .d .nilp=>some false
 | .d .nilp, .d (.iptr _)=>some false
 | .d (.iptr _), .d .nilp=>some false
 |_,_=>none
def KR(op:BinOp)(a b:AV):Option Bool :=
 match op,M0 a b with
 | .eql,some b=>some b
 | .neq,some b=>some (!b)
 |_,_=>none
def P8:Operand→Option Nat
 | .const (.int _ (.ofNat n))=>some n
 |_=>none
def shX(op:BinOp)(n:Nat)(x:AV):Option (Prop×AV) :=
 match op,x with
 | .shl, .d (.int k x)=>Mq k x n
 | .shr, .d (.int k x)=>some (n≤k.bits, .d (.int k (x/2^n)))
 |_,_=>none
def S5:BinOp→Bool | .shl | .shr=>true|_=>false
def AB:Option TI→Bool|some { sh := .bool, .. }=>true|_=>false
def EB(op:BinOp)(a b:AV):Option (Prop×AV) :=
 match op,a,b with
 | .eql, .d (.bool x), .d (.bool y)=>some (True, .d (.bool (decide (x=y))))
 | .neq, .d (.bool x), .d (.bool y)=>some (True, .d (.bool (!decide (x=y))))
 |_,_,_=>none
def Ke:Option TI→Bool|some { sh := .ptr _, .. }=>true|_=>false
def Ry(Γ:Ctx)(nn:Bool)(op:BinOp)(t:Nat)(lit:Option Nat)(x y:AV):Option (Prop×AV) :=
 match S5 op,lit with
 |true,some n=>shX op n x
 |_,_=>bif AB (aY Γ.T t) then EB op x y else bif Ke (aY Γ.T t) then (match KR op x y with|some b=>some (True, .d (.bool b))|none=>none) else QS nn op x y
def Rx(Γ:Ctx)(t:Nat)(x:AV):Option (Prop×AV) :=
 match aY Γ.T t,x with
 |some { sh := .str, .. }, .d (.str s)=>some (True, .d (.int .i64 s.length))
 |some { sh := .slice _, .. },x=>match P9 x with|some n=>some (True, .d (.int .i64 n))|none=>none
 |_,_=>none
def BU(Γ:Ctx)(env:Env)(c:Call):Option (Prop×AV) :=
 match c.callee with
 | .builtin .len=>match c.args.toList,c.argTypes.toList with
  |[x],[t]=>Rx Γ t (ev Γ env x)
  |_,_=>none
 | .builtin .max=>match RS (avs Γ env c.args)with|some v=>some (True,v)|none=>none
 | .builtin .min=>match RQ (avs Γ env c.args)with|some v=>some (True,v)|none=>none
 |_=>none
def AV.frc(a:AV):Option (Prop×AV) :=
 match a with
 | .d x=>some (True, .d x)
 | .ptr i o=>some (True, .ptr i o)
 | .eptr i n s j o=>some (True, .eptr i n s j o)
 | .own sz es i=>some (True, .own sz es i)
 | .ms i n=>some (True, .ms i n)
 | .ag cs=>some (True, .ag cs)
 | .cH cs=>some (True, .cH cs)
 | .fn f a b=>some (True, .fn f a b)
 | .mp i=>some (True, .mp i)
 | .it i=>some (True, .it i)
 | .top=>some (True, .top)
theorem jP(a:AV):a.frc=some (True,a):=by cases a<;>rfl
def qop(Γ:Ctx)(nn:Bool)(op:Op)(env:Env)(H:List aN):Option (Prop×AV) :=
 match op with
 | .move x=>(ev Γ env x).frc
 | .assign x=>(ev Γ env x).frc
 | .pick c a b=>match ev Γ env c with
  | .d (.bool c)=>(Ad (qI a b) c (ev Γ env a) (ev Γ env b)).frc
  |_=>none
 | .binOp op t x y _=>Ry Γ nn op t (P8 y) (ev Γ env x) (ev Γ env y)
 | .unOp .neg _ x=>match ev Γ env x with | .d (.int k n)=>Hs k (-n)|_=>none
 | .unOp .not _ x=>match ev Γ env x with | .d (.bool b)=>some (True, .d (.bool !b))|_=>none
 | .convert s d x=>match aY Γ.T s,aY Γ.T d,ev Γ env x with
  |some _,some { sh := .int k, .. }, .d (.int _ n)=>Kc k n
  |some { sh := .str, .. },some { sh := .str, .. }, .d (.str s)=>some (True, .d (.str s))
  |_,_,_=>none
 | .extract t i=>match ev Γ env t with
  | .cH vs=>match vs[i]? with|some v=>some (True,v)|none=>none
  |_=>none
 | .nilCheck x=>match ev Γ env x with
  | .ptr i o=>some (True, .ptr i o)
  | .eptr i a b c d=>some (True, .eptr i a b c d)
  | .d (.iptr cs)=>some (True, .d (.iptr cs))
  | .it i=>some (True, .it i)
  |_=>none
 | .load t a => match aY Γ.T t, ev Γ env a with
  |some ti, .ptr id off=>match hget H id with
   |some (.cells cs)=>match vu ti cs off with|some v=>v.frc|none=>none
   |_=>none
  |some ti, .d (.iptr cs)=>match kC ti cs 0 with|some v=>some (True, .d v)|none=>none
  |_,_=>none
 | .fieldAddr s x f=>match xB Γ s f,ev Γ env x with
  |some (fo,_), .ptr id off=>some (True, .ptr id (off+fo))
  |some (fo,_), .eptr id n sz i off=>some (True, .eptr id n sz i (off+fo))
  |some (fo,_), .d (.iptr cs)=>bif Nat.ble fo cs.length then some (True, .d (.iptr (cs.drop fo))) else none
  |_,_=>none
 | .field s x f => match xB Γ s f, ev Γ env x with
  |some (fo,t), .d (.agg cs)=>match aY Γ.T t with
   |some ti=>match kC ti cs fo with|some v=>some (True, .d v)|none=>none
   |none=>none
  |_,_=>none
 | .indexAddr t x i => match aY Γ.T t, ev Γ env x, ev Γ env i with
  |some { sh := .array len e, .. }, .ptr id off, .d (.int _ i)=>match aY Γ.T e with
   |some ti=>some (0≤i∧i<(len:Int), .ptr id (off+i.toNat*ti.size))
   |none=>none
  |some { sh := .array len e, .. }, .d (.iptr cs), .d (.int _ i)=>match aY Γ.T e with
   |some ti=>some ((0≤i∧i<(len:Int))∧len*ti.size≤cs.length, .d (.iptr (cs.drop (i.toNat*ti.size))))
   |none=>none
  |some { sh := .slice e, .. }, .d (.sl sz es), .d (.int _ i)=>match aY Γ.T e with
   |some ti=>bif Nat.beq sz ti.size then some (0≤i∧i<(es.length:Int), .d (.iptr (es.getD i.toNat .top).cells)) else none
   |none=>none
  |some { sh := .slice e, .. }, .own sz es _, .d (.int _ i)=>match aY Γ.T e with
   |some ti=>bif Nat.beq sz ti.size then some (0≤i∧i<(es.length:Int), .d (.iptr (es.getD i.toNat .top).cells)) else none
   |none=>none
  |_,_,_=>none
 | .index t x i => match aY Γ.T t, ev Γ env x, ev Γ env i with
  |some { sh := .array len e, .. }, .d (.agg cs), .d (.int _ i)=>match aY Γ.T e with
   | some ti => bif ti.agg then some ((0 ≤ i ∧ i < (len : Int)) ∧ len * ti.size ≤ cs.length, .d (.agg ((cs.drop (i.toNat * ti.size)).take ti.size)))
     else some ((0≤i∧i<(len:Int))∧len≤cs.length, .d (cs.getD i.toNat .top))
   |none=>none
  |some { sh := .str, .. }, .d (.str s), .d (.int _ i)=>some (0≤i∧i<(s.length:Int), .d (.int .u8 (bt s i.toNat)))
  |_,_,_=>none
 | .slice t x lo hi none => match aY Γ.T t, ev Γ env x, lo.map (ev Γ env), hi.map (ev Γ env) with
  |some { sh := .str, .. }, .d (.str s),some (.d (.int _ l)),some (.d (.int _ h))=>some (0≤l∧l≤h∧h≤(s.length:Int), .d (.str ((s.take h.toNat).drop l.toNat)))
  |some { sh := .str, .. }, .d (.str s),some (.d (.int _ l)),none=>some (0≤l∧l≤(s.length:Int), .d (.str (s.drop l.toNat)))
  |some { sh := .str, .. }, .d (.str s),none,some (.d (.int _ h))=>some (0≤h∧h≤(s.length:Int), .d (.str (s.take h.toNat)))
  |some { sh := .slice e, .. }, .d (.sl sz es),some (.d (.int _ l)),some (.d (.int _ h))=>match aY Γ.T e with
   |some ti=>bif Nat.beq sz ti.size then some (0≤l∧l≤h∧h≤(es.length:Int), .d (.sl sz ((es.take h.toNat).drop l.toNat))) else none
   |none=>none
  |some { sh := .slice e, .. }, .d (.sl sz es),some (.d (.int _ l)),none=>match aY Γ.T e with
   |some ti=>bif Nat.beq sz ti.size then some (0≤l∧l≤(es.length:Int), .d (.sl sz (es.drop l.toNat))) else none
   |none=>none
  |some { sh := .slice e, .. }, .d (.sl sz es),none,some (.d (.int _ h))=>match aY Γ.T e with
   |some ti=>bif Nat.beq sz ti.size then some (0≤h∧h≤(es.length:Int), .d (.sl sz (es.take h.toNat))) else none
   |none=>none
  |_,_,_,_=>none
 | .call c=>BU Γ env c
 | .makeFunc f first cap=>some (True, .fn f (avs Γ env first) (avs Γ env cap))
 |_=>none
section
variable {Γ:Ctx}{G:aO}{H:List aN}{w:World}{nn:Bool}{env:Env}{nt:Nat}{a:Act}
structure dQ(P:Program)(t:Nat)(ti:TI) where
 i:TypeInfo
 d:TypeDesc
 info:P.info? t=some i
 size:i.size=ti.size
 bytes:i.bytes=ti.bytes
 und:P.underlying t=some d
 sh:qX P (some d) ti.sh=true
 agg:AA (some d)=ti.agg
 one:ti.agg=false→ti.size=1
 zlen:ti.zero.length=ti.size
 z:Value
 hz:i.zero=some z
 zok:jN z.cells.toList ti.zero=true
theorem L6{P:Program}{t:Nat}{ti:TI}(h:LZ P t ti=true):Nonempty (dQ P t ti):=by
 unfold LZ at h;split at h
 ·cases h
 ·rename_i i hi;simp only[Bool.and_eq_true,Bool.or_eq_true,beq_iff_eq]at h;obtain⟨⟨⟨⟨⟨⟨h1,h2⟩,h3⟩,h4⟩,h5⟩,h6⟩,h7⟩:=h;cases hd:P.underlying t with
  |none=>rw[hd]at h4;cases hs:ti.sh<;>simp[qX,hs]at h4
  | some d =>
   rw[hd]at h4 h5;split at h3
   ·rename_i z hz;exact⟨⟨i,d,hi,h1,h2,hd,h4,h5,fun e=>by simpa[e]using h7,h6,z,hz,h3⟩⟩
   ·cases h3
theorem Ctx.ty(Γ:Ctx){t:Nat}{ti:TI}(h:aY Γ.T t=some ti):Nonempty (dQ Γ.P t ti):=L6 (CI Γ.ok h)
theorem dQ.isAgg{P:Program}{t:Nat}{ti:TI}(f:dQ P t ti)(w:World):(isAgg t).run P w = .ok ti.agg w:=by
 unfold Go.isAgg;rw[Sem.run_bind,run_underlying f.und w,←f.agg];cases f.d<;>simp[AA]
theorem dQ.sizeOf{P:Program}{t:Nat}{ti:TI}(f:dQ P t ti)(w:World):(sizeOf t).run P w = .ok ti.size w:=by
 simp[Go.sizeOf,typeInfo,f.info,f.size]
def RA(w:World)(b o:Nat)(vs:List Value):Prop:=∀j v,vs[j]?=some v→w.cell? ⟨b,o+j,none⟩=some v
theorem addr_add(b o j:Nat):(⟨b,o,none⟩:Addr).add j=⟨b,o+j,none⟩:=by unfold Addr.add;split<;>simp_all
theorem vo{P:Program}{t:Nat}{ti:TI}(f:dQ P t ti){b o:Nat}{vs:List Value}(h:RA w b o vs)(hl:vs.length=ti.size):
  (Instr.loadAt t (.pointer (some ⟨b,o,none⟩))).run P w = .ok (if ti.agg then .agg vs.toArray else gv vs 0) w:=by
 have hc:(loadCells ⟨b,o,none⟩ vs.length).run P w = .ok vs.toArray w:=run_loadCells_list (P:=P) w ⟨b,o,none⟩ vs (fun j v hv=>by rw[addr_add];exact h j v hv);simp only[Instr.loadAt,Instr.sureAddr,loadVar,Sem.run_bind,Sem.run_pure,Result.andThen_ok,f.isAgg,Sem.run_ite,f.sizeOf];cases hag:ti.agg with
 |true=>simp[←hl,hc]
 | false =>
  have h1:=f.one hag;have:vs[0]?=some (gv vs 0):=by
   cases vs with
   |nil=>simp[h1]at hl
   |cons v r=>simp[gv]
  have:=h 0 _ this;simp at this;simp[this]
theorem li{α:Type}(l:List α)(o n i:Nat):((l.drop o).take n)[i]?=if i<n then l[o+i]? else none:=by
 simp[List.getElem?_take,List.getElem?_drop]
theorem jm{l:List Value}{i:Nat}(hi:i<l.length):l[i]?=some (gv l i):=by
 simp[gv,List.getD,List.getElem?_eq_getElem hi]
theorem uo{v:Value}{c:AV}{x:D}(h:bA G v c)(hx:c.unD=some x):DRel G.imm v x:=by
 cases h<;>simp[AV.unD]at hx
 case d h=>subst hx;exact h
 case own hd=>subst hx;exact hd
theorem EW{c:AV}{x:D}(hx:c.unD=some x)(h:c.one=true):x.one=true:=by
 cases c<;>simp[AV.unD]at hx
 case d=>subst hx;exact h
 case own=>subst hx;rfl
theorem wF:∀{l:List AV} {ds:List D},wG l=some ds→ds.length=l.length∧∀(i:Nat) (x:D),ds[i]?=some x→∃c:AV,l[i]?=some c∧c.unD=some x
 |[],_,h=>by simp[wG]at h;subst h;simp
 | c :: r, ds, h => by
  simp only[wG]at h;split at h
  ·rename_i x l h1 h2;cases h;obtain⟨i1,i2⟩:=wF h2;refine⟨by simp[i1],fun i y hy=>?_⟩;cases i with
   |zero=>simp at hy;subst hy;exact⟨c,rfl,h1⟩
   |succ i=>simpa using i2 i y (by simpa using hy)
  ·cases h
theorem Cy{vs:Array Value}{l:List AV}(hl:vs.size=l.length)(h1:∀c∈l,c.one=true)(h:∀(i:Nat) (c:AV),l[i]?=some c→bA G (gv vs.toList i) c):
  bA G (.agg vs) (sW l):=by
 unfold sW;split
 ·rename_i ds hd;obtain⟨e1,e2⟩:=wF hd;refine .d _ _ (.agg _ _ (by rw[hl,e1]) (fun x hx=>?_) fun i x hx=>?_)
  ·obtain⟨i,hi⟩:=List.getElem?_of_mem hx;obtain⟨c,hc,hcx⟩:=e2 i x hi;exact EW hcx (h1 c (List.mem_of_getElem? hc))
  ·obtain⟨c,hc,hcx⟩:=e2 i x hx;exact uo (h i c hc) hcx
 ·exact .ag _ _ hl h1 h
theorem tF{P:Program}{t:Nat}{ti:TI}(f:dQ P t ti){b o:Nat}{us:List Value}{cs:List AV}{off:Nat}{v:AV}
  (h1:∀c∈cs,c.one=true) (h:∀(i:Nat) (c:AV),cs[i]?=some c→bA G (gv us i) c)
  (hv:vu ti cs off=some v):∃r,bA G r v∧∀w:World,(∀i,i<cs.length→w.cell? ⟨b,o+i,none⟩=some (gv us i))→(Instr.loadAt t (.pointer (some ⟨b,o+off,none⟩))).run P w = .ok r w:=by
 unfold vu at hv;cases hag:ti.agg with
 | true =>
  rw[hag,cond_true]at hv;cases hb:Nat.ble (off+ti.size) cs.length with
  |false=>rw[hb]at hv;cases hv
  | true =>
   rw[hb,cond_true]at hv;cases hv;have hle:=Nat.le_of_ble_eq_true hb
   let vs:=(List.range ti.size).map fun i=>gv us (off+i)
   have hr:∀w:World,(∀i,i<cs.length→w.cell? ⟨b,o+i,none⟩=some (gv us i))→RA w b (o+off) vs:=fun w hm j v hj=>by
    simp only[vs,List.getElem?_map]at hj;have hjl:j<ti.size:=by
     rcases Nat.lt_or_ge j ti.size with h|h
     ·exact h
     ·simp[List.getElem?_eq_none (l:=List.range ti.size) (i:=j) (by simpa using h)]at hj
    simp[hjl]at hj;subst hj;rw[Nat.add_assoc];exact hm (off+j) (by omega)
   refine⟨.agg vs.toArray,Cy (by simp[vs];omega) (fun c hc=>h1 c (List.mem_of_mem_drop (List.mem_of_mem_take hc))) (fun i c hc=>?_),fun w hm=>?_⟩
   ·rw[li]at hc;split at hc
    ·rename_i hi;have:=h (off+i) c hc;simpa[gv,vs,hi,List.getD]using this
    ·cases hc
   ·rw[vo f (hr w hm) (by simp[vs]),hag];rfl
 | false =>
  rw[hag,cond_false]at hv;have hlt:=aI hv;refine⟨gv us off,h off v hv,fun w hm=>?_⟩;have hr:RA w b (o+off) [gv us off]:=fun j v hj=>by
   cases j with
   |zero=>simp at hj;subst hj;simpa using hm off hlt
   |succ j=>simp at hj
  rw[vo f hr (by simp[f.one hag]),hag];simp[gv]
theorem Hp(ti:TI)(cs:List D)(off:Nat)(x:D)(h:kC ti cs off=some x):∃v,vu ti (cs.map .d) off=some v∧(∀r,bA G r v→bA G r (.d x)):=by
 unfold kC at h;unfold vu;cases hag:ti.agg with
 | true =>
  rw[hag,cond_true]at h;cases hb:Nat.ble (off+ti.size) cs.length with
  |false=>rw[hb]at h;cases h
  | true =>
   rw[hb,cond_true]at h;cases h;simp only[cond_true,List.length_map,hb];refine⟨_,rfl,fun r hr=>?_⟩;have:wG (List.take ti.size (List.drop off (cs.map AV.d)))=some (List.take ti.size (List.drop off cs)):=by
    rw[←List.map_drop,←List.map_take];generalize List.take ti.size (List.drop off cs)=l
    induction l with
    |nil=>rfl
    |cons x l ih=>simp[wG,AV.unD,ih]
   rw[sW,this]at hr;exact hr
 |false =>
  rw[hag,cond_false]at h;exact⟨.d x,by simp[h],fun r hr=>hr⟩
theorem tE{P:Program}{t:Nat}{ti:TI}(f:dQ P t ti){b o:Nat}{us:List Value}{cs:List D}{off:Nat}{x:D}
  (h1:∀c∈cs,c.one=true) (h:∀(i:Nat) (c:D),cs[i]?=some c→DRel G.imm (gv us i) c)
  (hv:kC ti cs off=some x):∃r,bA G r (.d x)∧∀w:World,(∀i,i<cs.length→w.cell? ⟨b,o+i,none⟩=some (gv us i))→(Instr.loadAt t (.pointer (some ⟨b,o+off,none⟩))).run P w = .ok r w:=by
 obtain⟨v,e1,e2⟩:=Hp (G:=G) ti cs off x hv;obtain⟨r,r1,r2⟩:=tF (G:=G) f (b:=b) (o:=o) (us:=us) (fun c hc=>by obtain⟨y,hy,rfl⟩:=List.mem_map.1 hc;exact h1 y hy)
  (fun i c hc => by
   rw[List.getElem?_map]at hc;cases hq:cs[i]? with
   |none=>simp[hq]at hc
   |some y=>simp[hq]at hc;subst hc;exact .d _ _ (h i y hq)) e1
 exact⟨r,e2 r r1,fun w hm=>r2 w (by simpa using hm)⟩
theorem bN(hW:bM Γ.gl G H w)(hF:df G nt a.tmps env)(x:Operand):bA G (a.eval x) (ev Γ env x):=by
 cases x with
 |tmp t=>exact hF.rel t
 |const v =>
  simp only[Act.eval,ev];unfold Gn;split<;>first|exact .d _ _ (.bool _)|exact .d _ _ (.int _ _)|exact .d _ _ (.str _)|exact .d _ _ .nilp|exact .d _ _ .aU|exact .d _ _ .nilf|exact .top _
 | global g =>
  simp only[Act.eval,ev];split
  ·rename_i cs hg;exact .d _ _ (hW.glob g cs (yT hg))
  ·exact .top _
 |func f=>exact .fn _ #[] #[] [] [] rfl rfl (fun i c h=>by simp at h) (fun i c h=>by simp at h)
end
end
section
open Go Go.RowKit
section
variable {Γ:Ctx}{G:aO}{H:List aN}{w w':World}{nn:Bool}{env:Env}{nt:Nat}{a:Act}{c:Prop}{v:AV}
theorem xU(hb:Below w.heap.size w w'){b o:Nat}{u:Value}(h:w.cell? ⟨b,o,none⟩=some u):w'.cell? ⟨b,o,none⟩=some u:=by
 rw[hb.cell (p:=⟨b,o,none⟩) (World.block_lt_of_cell? w _ h)];exact h
theorem Di{x:Value}{ax:AV}{b:Bool}(hx:bA G x ax)(h:ax.zB=some b):x = .bool b:=by
 unfold AV.zB at h;split at h
 ·cases h;exact hx.fT
 ·cases h
theorem MN{x y:Value}{ax ay:AV}(l:Option Bool)(b:Bool)(hf:l=some false→y = .bool false)(ht:l=some true→x = .bool true)(hx:bA G x ax)(hy:bA G y ay):bA G (if b then x else y) (Ad l b ax ay):=by
 have dflt:bA G (if b then x else y) (bif b then ax else ay):=by cases b<;>assumption
 match l,hf,ht with
 |some false,hf,_ =>
  simp only[Ad];cases h1:ax.zB with
  |some p=>rw[Di hx h1,hf rfl];cases b<;>exact .d _ _ (.bool _)
  |none=>exact dflt
 |some true,_,ht =>
  simp only[Ad];cases h1:ay.zB with
  |some p=>rw[Di hy h1,ht rfl];cases b<;>exact .d _ _ (.bool _)
  |none=>exact dflt
 |none,_,_=>exact dflt
theorem Hb{a:Act}{x y:Operand}(h:qI x y=some false):a.eval y = .bool false:=by
 unfold qI at h;split at h
 ·rfl
 ·cases h
 ·cases h
theorem Ha{a:Act}{x y:Operand}(h:qI x y=some true):a.eval x = .bool true:=by
 unfold qI at h;split at h
 ·cases h
 ·rfl
 ·cases h
theorem Ea{x y z:Operand}(hW:bM Γ.gl G H w)(hF:df G nt a.tmps env)(hq:qop Γ nn (.pick x y z) env H=some (c,v)):
  ∃u,bA G u v∧∀w',(do pure (.value (if ←asBool (a.eval x) then a.eval y else a.eval z)):Sem Next).run Γ.P w' = .ok (.value u) w':=by
 have h1:=bN hW hF x;simp only[qop]at hq;split at hq
 ·rename_i b hb;rw[hb]at h1;rw[jP]at hq;cases hq;exact⟨_,MN (qI y z) b Hb Ha (bN hW hF y) (bN hW hF z),fun w'=>by rw[h1.fT];cases b<;>simp[asBool]⟩
 ·cases hq
theorem MZ{x y:Value}{ax ay:AV}{r:Bool}(hx:bA G x ax)(hy:bA G y ay)(h:M0 ax ay=some r):
  ∃p q,x = .pointer p∧y = .pointer q∧(p=none∨q=none)∧r=(p.isNone&&q.isNone):=by
 have i1:∀{v:Value},bA G v (.d .nilp)→v = .pointer none:=fun h=>by cases h with|d _ _ h=>cases h;rfl
 have i2:∀{v:Value} {i o},bA G v (.ptr i o)→∃a,v = .pointer (some a):=fun h=>by cases h;exact⟨_,rfl⟩
 have i3:∀{v:Value} {cs},bA G v (.d (.iptr cs))→∃a,v = .pointer (some a):=fun h=>by cases h with|d _ _ h=>cases h;exact⟨_,rfl⟩
 unfold M0 at h;split at h
 ·cases h;exact⟨none,none,i1 hx,i1 hy, .inl rfl,rfl⟩
 ·cases h;obtain⟨q,hq⟩:=i2 hy;exact⟨none,some q,i1 hx,hq, .inl rfl,rfl⟩
 ·cases h;obtain⟨q,hq⟩:=i2 hx;exact⟨some q,none,hq,i1 hy, .inr rfl,rfl⟩
 ·cases h;obtain⟨q,hq⟩:=i3 hy;exact⟨none,some q,i1 hx,hq, .inl rfl,rfl⟩
 ·cases h;obtain⟨q,hq⟩:=i3 hx;exact⟨some q,none,hq,i1 hy, .inr rfl,rfl⟩
 ·cases h
theorem KQ{op:BinOp}{x y:Value}{ax ay:AV}{b:Bool}(hx:bA G x ax)(hy:bA G y ay)(h:KR op ax ay=some b)(t:TypeId)(ht:∃e,Γ.P.underlying t=some (.pointer e))(xo yo:Operand):
  ∀w',(do eqGuard op t xo yo x y;binOp op t x y:Sem Value).run Γ.P w' = .ok (.bool b) w':=by
 obtain⟨e,he⟩:=ht;intro w';unfold KR at h;cases hr:M0 ax ay with
 |none=>rw[hr]at h;cases op<;>cases h
 | some r =>
  rw[hr]at h;obtain⟨p,q,rfl,rfl,hpq,rfl⟩:=MZ hx hy hr;have hu:=run_underlying he w';have e1:(Op.equal t (.pointer p) (.pointer q)).run Γ.P w' = .ok (p.isNone&&q.isNone) w':=by
   unfold Op.equal Op.maxDepth;rw[show (10000:Nat)=9999+1 from rfl,Op.equalIn,Sem.run_bind,hu];rcases p with _|p
   ·simp
   ·rcases q with _|q
    ·simp
    ·simp at hpq
  have hg:∀op,(eqGuard op t xo yo (.pointer p) (.pointer q)).run Γ.P w' = .ok () w':=fun op=>by unfold eqGuard;cases op<;>simp
  rw[Sem.run_bind,hg];cases op<;>cases h
  ·simp[binOp,e1]
  ·simp[binOp,e1]
theorem PH{t:TypeId}{x:Operand}(hW:bM Γ.gl G H w)(hF:df G nt a.tmps env)(hq:qop Γ nn (.load t x) env H=some (c,v)):
  ∃u,bA G u v∧∀w',Below w.heap.size w w'→(Instr.loadAt t (a.eval x)).run Γ.P w' = .ok u w':=by
 have hx:=bN hW hF x;simp only[qop]at hq;split at hq
 ·rename_i ti id off ht he;rw[he]at hx;obtain⟨f⟩:=Γ.ty ht;split at hq
  ·rename_i cs hh;split at hq
   ·rename_i v' hv;rw[jP]at hq;cases hq;rw[dA]at hh;obtain⟨b,cur,t',h1,h2,h3,h4,h5,h6⟩:=hW.obj id _ hh;generalize hxe:a.eval x=xv at hx;cases hx with
    |ptr b' _ _ hb =>
     rw[h1]at hb;cases hb;obtain⟨r,hr1,hr2⟩:=tF (G:=G) (b:=b) (o:=0) (us:=cur.toList) f h4 h5 hv;refine⟨r,hr1,fun w' hb=>?_⟩;have hlt:b<w.heap.size:=(Array.getElem?_eq_some_iff.1 h2).1;have hrow:=(hb.block b hlt).trans h2;have:=hr2 w' (fun i hi=>by rw[cell_of_row w' b (0+i) cur t' _ hrow];simp[gv,List.getD,show i<cur.size by omega]);simpa using this
   ·cases hq
  ·cases hq
 ·rename_i ti cs ht he;rw[he]at hx;obtain⟨f⟩:=Γ.ty ht;split at hq
  ·rename_i x' hv;cases hq;generalize hxe:a.eval x=xv at hx;cases hx with
   | d _ _ hd =>
    cases hd with
    | iptr b o _ hin hone h =>
     obtain⟨r,hr1,hr2⟩:=tE (G:=G) (b:=b) (o:=o) (us:=(G.imm b).drop o) f hone (fun i c hc=>by
      have:=h i c hc
      simpa[gv,List.getD]using this) hv
     refine⟨r,hr1,fun w' hb=>?_⟩
     have:=hr2 w' (fun i hi=>xU hb (by
      rw[hW.imm b (o+i) (by omega)];simp[gv,List.getD]))
     simpa using this
  ·cases hq
 ·cases hq
theorem LY{t e:Nat}{ti:TI}(f:dQ Γ.P t ti)(h:ti.sh = .ptr e):Γ.P.underlying t=some (.pointer e):=by
 have:=f.sh;rw[h]at this;cases hd:f.d<;>rw[hd]at this<;>simp[qX]at this;rw[f.und,hd,this]
theorem pJ{t:Nat}{ti:TI}(f:dQ Γ.P t ti)(h:ti.sh = .bool):Γ.P.underlying t=some .bool:=by
 have:=f.sh;rw[h]at this;cases hd:f.d<;>rw[hd]at this<;>simp[qX]at this;rw[f.und,hd]
theorem HT{op:BinOp}{x y:Value}{ax ay:AV}{c:Prop}{v:AV}(hx:bA G x ax)(hy:bA G y ay)(h:EB op ax ay=some (c,v))(t:TypeId)(ht:Γ.P.underlying t=some .bool)(xo yo:Operand):
  ∃u,bA G u v∧∀w',(do eqGuard op t xo yo x y;binOp op t x y:Sem Value).run Γ.P w' = .ok u w':=by
 have key:∀p q:Bool,x = .bool p→y = .bool q→∀w',(Op.equal t x y).run Γ.P w' = .ok (decide (p=q)) w':=by
  rintro p q rfl rfl w';have hu:=run_underlying ht w';unfold Op.equal Op.maxDepth;rw[show (10000:Nat)=9999+1 from rfl,Op.equalIn,Sem.run_bind,hu];cases p<;>cases q<;>simp
 unfold EB at h;split at h
 ·rename_i p q;cases h;have e1:=key p q hx.fT hy.fT;obtain rfl:=hx.fT;obtain rfl:=hy.fT;refine⟨_, .d _ _ (.bool _),fun w'=>?_⟩;have hg:(eqGuard .eql t xo yo (.bool p) (.bool q)).run Γ.P w' = .ok () w':=by unfold eqGuard;simp
  rw[Sem.run_bind,hg];simp[binOp,e1]
 ·rename_i p q;cases h;have e1:=key p q hx.fT hy.fT;obtain rfl:=hx.fT;obtain rfl:=hy.fT;refine⟨_, .d _ _ (.bool _),fun w'=>?_⟩;have hg:(eqGuard .neq t xo yo (.bool p) (.bool q)).run Γ.P w' = .ok () w':=by unfold eqGuard;simp
  rw[Sem.run_bind,hg];simp[binOp,e1]
 ·cases h
theorem oz{t:Nat}{fs:List (Nat×Nat)}{ti:TI}(f:dQ Γ.P t ti)(h:ti.sh = .struct fs):∃gs,Γ.P.underlying t=some (.struct gs)∧eQ Γ.P gs.toList fs=true:=by
 have:=f.sh;rw[h]at this;cases hd:f.d<;>rw[hd]at this<;>simp[qX]at this;exact⟨_,by rw[f.und,hd],this⟩
theorem lT{t n e:Nat}{ti:TI}(f:dQ Γ.P t ti)(h:ti.sh = .array n e):Γ.P.underlying t=some (.array n e):=by
 have:=f.sh;rw[h]at this;cases hd:f.d<;>rw[hd]at this<;>simp[qX]at this;rw[f.und,hd,this.1,this.2]
theorem cQ{t e:Nat}{ti:TI}(f:dQ Γ.P t ti)(h:ti.sh = .slice e):Γ.P.underlying t=some (.slice e):=by
 have:=f.sh;rw[h]at this;cases hd:f.d<;>rw[hd]at this<;>simp[qX]at this;rw[f.und,hd,this]
theorem gG{t:Nat}{ti:TI}(f:dQ Γ.P t ti)(h:ti.sh = .str):Γ.P.underlying t=some .string:=by
 have:=f.sh;rw[h]at this;cases hd:f.d<;>rw[hd]at this<;>simp[qX]at this;rw[f.und,hd]
theorem kX{t:Nat}{k:IntKind}{ti:TI}(f:dQ Γ.P t ti)(h:ti.sh = .int k):Γ.P.underlying t=some (.int k):=by
 have:=f.sh;rw[h]at this;cases hd:f.d<;>rw[hd]at this<;>simp[qX]at this;rw[f.und,hd,this]
theorem tO{P:Program}:∀{gs:List Field} {fs:List (Nat×Nat)},eQ P gs fs=true→∀{n o t:Nat},fs[n]?=some (o,t)→∃g,gs[n]?=some g∧g.offset=o∧g.type=t∧∃i,P.info? t=some i∧i.size≠0
 |[],[],_,n,o,t,h=>by simp at h
 |[],_::_,h,_,_,_,_=>by simp[eQ]at h
 |_::_,[],h,_,_,_,_=>by simp[eQ]at h
 | g :: gs, (o', t') :: fs, h, n, o, t, hn => by
  simp only[eQ,Bool.and_eq_true,beq_iff_eq]at h;obtain⟨⟨⟨h1,h2⟩,h3⟩,h4⟩:=h;cases n with
  |zero =>
   simp at hn;obtain⟨rfl,rfl⟩:=hn;split at h3
   ·rename_i i hi;rw[h2]at hi;exact⟨g,rfl,h1,h2,i,hi,by simpa using h3⟩
   ·cases h3
  |succ n=>simpa using tO h4 (by simpa using hn)
theorem zk{s fl o t:Nat}(h:xB Γ s fl=some (o,t)):∃gs:Array Field,Γ.P.underlying s=some (.struct gs)∧∃g,gs[fl]?=some g∧g.offset=o∧g.type=t∧∃i,Γ.P.info? t=some i∧i.size≠0:=by
 unfold xB at h;split at h
 ·rename_i ti fs hs;obtain⟨f⟩:=Γ.ty hs;obtain⟨gs,h1,h2⟩:=oz f rfl;obtain⟨g,g1,g2⟩:=tO h2 h;exact⟨gs,h1,g,by simpa using g1,g2⟩
 ·cases h
theorem pO{s fl o t b off:Nat}(h:xB Γ s fl=some (o,t))(w:World):(Instr.fieldAt s (.pointer (some ⟨b,off,none⟩)) fl).run Γ.P w = .ok (.pointer (some ⟨b,off+o,none⟩)) w:=by
 obtain⟨gs,h1,g,g1,g2,g3,i,hi,hn⟩:=zk h;simp only[Instr.fieldAt,Sem.run_bind,run_underlying h1,Result.andThen_ok,g1,Instr.sureAddr,Sem.run_pure,fieldPlace,Go.sizeOf,typeInfo,run_program,g3,hi,hn,if_false,g2,addr_add]
theorem pW{s fl:Nat}{x:Operand}(hW:bM Γ.gl G H w)(hF:df G nt a.tmps env)(hq:qop Γ nn (.fieldAddr s x fl) env H=some (c,v)):
  ∃u,bA G u v∧∀w',(Instr.fieldAt s (a.eval x) fl).run Γ.P w' = .ok u w':=by
 have hx:=bN hW hF x;simp only[qop]at hq;split at hq
 ·rename_i fo t id off h1 h2;cases hq;rw[h2]at hx;generalize a.eval x=xv at hx;cases hx with
  |ptr b _ _ hb=>exact⟨_, .ptr b id _ hb,fun w'=>pO h1 w'⟩
 ·rename_i fo t id n sz i off h1 h2;cases hq;rw[h2]at hx;generalize a.eval x=xv at hx;cases hx with
  |eptr b cap _ _ _ _ _ hb=>exact⟨_, .eptr b cap id n sz i _ hb,fun w'=>by rw[pO h1 w',Nat.add_assoc]⟩
 ·rename_i fo t cs h1 h2;cases hb:Nat.ble fo cs.length with
  |false=>rw[hb]at hq;cases hq
  | true =>
   rw[hb]at hq;cases hq;have hle:=Nat.le_of_ble_eq_true hb;rw[h2]at hx;generalize a.eval x=xv at hx;cases hx with
   | d _ _ hd =>
    cases hd with
    |iptr b o _ hin hone h =>
     refine⟨_, .d _ _ (.iptr b (o+fo) (cs.drop fo) (by simp;omega) (fun c hc=>hone c (List.mem_of_mem_drop hc)) (fun j c hc=>?_)),fun w'=>pO h1 w'⟩;rw[List.getElem?_drop]at hc;rw[Nat.add_assoc];exact h _ c hc
 ·cases hq
theorem BK{t:Nat}{ti:TI}(f:dQ Γ.P t ti)(vs:Array Value)(off:Nat)(w:World):
  (part t vs off).run Γ.P w = if ti.agg then .ok (.agg (vs.extract off (off + ti.size))) w else match vs[off]? with | some v => .ok v w | none => .halt (.stuck "part: no such cell") w := by
 simp only[part,Sem.run_bind,f.isAgg,Result.andThen_ok,Sem.run_ite,f.sizeOf,Sem.run_pure];split
 ·rfl
 ·cases vs[off]?<;>simp
theorem Af{t:Nat}{ti:TI}(f:dQ Γ.P t ti){vs:Array Value}{cs:List D}{off:Nat}{x:D}(hl:vs.size=cs.length)(hone:∀c∈cs,c.one=true)
  (h:∀(i:Nat) (c:D),cs[i]?=some c→DRel G.imm (gv vs.toList i) c) (hv:kC ti cs off=some x) :
  ∃u,bA G u (.d x)∧∀w',(part t vs off).run Γ.P w' = .ok u w':=by
 unfold kC at hv;cases hag:ti.agg with
 | true =>
  rw[hag,cond_true]at hv;cases hb:Nat.ble (off+ti.size) cs.length with
  |false=>rw[hb]at hv;cases hv
  | true =>
   rw[hb,cond_true]at hv;cases hv;have hle:=Nat.le_of_ble_eq_true hb;refine⟨_, .d _ _ (.agg (vs.extract off (off+ti.size)) _ (by simp;omega) (fun c hc=>hone c (List.mem_of_mem_drop (List.mem_of_mem_take hc))) fun i c hc=>?_),fun w'=>by rw[BK f,hag];rfl⟩;rw[li]at hc;split at hc
   ·rename_i hi;have:=h _ c hc;have e:(vs.extract off (off+ti.size)).toList[i]?=vs.toList[off+i]?:=by
     simp only[Array.getElem?_toList,Array.getElem?_extract];rw[if_pos (by omega)]
    simp only[gv,List.getD,e]at this ⊢;exact this
   ·cases hc
 |false =>
  rw[hag,cond_false]at hv;have hlt:=aI hv;refine⟨gv vs.toList off, .d _ _ (h off x hv),fun w'=>?_⟩;rw[BK f,hag];have:vs[off]?=some (gv vs.toList off):=by simp[gv,List.getD,show off<vs.size by omega]
  simp[this]
theorem Aa{s fl:Nat}{x:Operand}(hW:bM Γ.gl G H w)(hF:df G nt a.tmps env)(hq:qop Γ nn (.field s x fl) env H=some (c,v)):
  ∃u,bA G u v∧∀w',(Instr.field s (a.eval x) fl).run Γ.P w' = .ok u w':=by
 have hx:=bN hW hF x;simp only[qop]at hq;split at hq
 ·rename_i fo t cs h1 h2;split at hq
  ·rename_i ti ht;split at hq
   ·rename_i x' hv;cases hq;obtain⟨f⟩:=Γ.ty ht;rw[h2]at hx;generalize a.eval x=xv at hx;cases hx with
    | d _ _ hd =>
     cases hd with
     |agg vs _ hl hone h =>
      obtain⟨u,u1,u2⟩:=Af f hl hone h hv;obtain⟨gs,g1,g,g2,g3,g4,_⟩:=zk h1;exact⟨u,u1,fun w'=>by simp[Instr.field,run_underlying g1,g2,asAgg,g3,g4,u2]⟩
   ·cases hq
  ·cases hq
 ·cases hq
theorem xz{es:List D}{i:Nat}(h:i<es.length):es[i]?=some (es.getD i .top):=by simp[List.getD,List.getElem?_eq_getElem h]
theorem Mm{sz:Nat}{es:List D}{u:Value}(h:DRel G.imm u (.sl sz es)){i:Nat}(hi:i<es.length):
  ∃b o cap,u = .slice (some ⟨b,o,none⟩) es.length cap∧(∀e∈es,e.cells.length=sz)∧DRel G.imm (.pointer (some ⟨b,o+i*sz,none⟩)) (.iptr (es.getD i .top).cells):=by
 cases h with
 |sl0=>simp at hi
 | sl b o cap sz _ hne hcap hsz hone hin h =>
  have hm:=jG (xz hi);refine⟨b,o,cap,rfl,hsz, .iptr b _ _ ?_ (hone _ hm) fun j c hc=>?_⟩
  ·rw[hsz _ hm];have:(i+1)*sz≤es.length*sz:=Nat.mul_le_mul_right _ hi;rw[Nat.add_mul]at this;omega
  ·exact h i _ j c (xz hi) hc
theorem run_indexAt_slice{t e:Nat}{ti:TI}(fe:dQ Γ.P e ti)(hu:Γ.P.underlying t=some (.slice e)){b o n cap:Nat}{k:IntKind}{i:Int}(h0:0≤i)(h1:i<n)(w:World):
  (Instr.indexAt t (.slice (some ⟨b,o,none⟩) n cap) (.int k i)).run Γ.P w = .ok (.pointer (some ⟨b,o+i.toNat*ti.size,none⟩)) w:=by
 simp[Instr.indexAt,asIntOf,run_underlying hu,h0,h1,fe.sizeOf,addr_add]
theorem run_indexAt_array{t e len:Nat}{ti:TI}(fe:dQ Γ.P e ti)(hu:Γ.P.underlying t=some (.array len e)){b o:Nat}{k:IntKind}{i:Int}(h0:0≤i)(h1:i<len)(w:World):
  (Instr.indexAt t (.pointer (some ⟨b,o,none⟩)) (.int k i)).run Γ.P w = .ok (.pointer (some ⟨b,o+i.toNat*ti.size,none⟩)) w:=by
 simp[Instr.indexAt,asIntOf,run_underlying hu,h0,h1,fe.sizeOf,addr_add,Instr.sureAddr]
theorem Ag{sz id:Nat}{es:List D}{u:Value}(h:bA G u (.own sz es id)):DRel G.imm u (.sl sz es):=by cases h;assumption
theorem rJ{t e:Nat}{te:TI}(hu:Γ.P.underlying t=some (.slice e))(he:aY Γ.T e=some te){sz:Nat}{es:List D}{u:Value}(h:DRel G.imm u (.sl sz es)){k:IntKind}{i:Int}
  (hs:Nat.beq sz te.size=true) (hc:0≤i∧i<(es.length:Int)) :
  ∃r,bA G r (.d (.iptr (es.getD i.toNat .top).cells))∧∀w',(Instr.indexAt t u (.int k i)).run Γ.P w' = .ok r w':=by
 obtain⟨fe⟩:=Γ.ty he;obtain⟨b,o,cap,rfl,hsz,hp⟩:=Mm h (show i.toNat<es.length by omega);have:=Nat.eq_of_beq_eq_true hs;subst this;exact⟨_, .d _ _ hp,fun w'=>run_indexAt_slice fe hu hc.1 hc.2 w'⟩
theorem pV{t:Nat}{x y:Operand}(hW:bM Γ.gl G H w)(hF:df G nt a.tmps env)(hq:qop Γ nn (.indexAddr t x y) env H=some (c,v))(hc:c):
  ∃u,bA G u v∧∀w',(Instr.indexAt t (a.eval x) (a.eval y)).run Γ.P w' = .ok u w':=by
 have hx:=bN hW hF x;have hy:=bN hW hF y;generalize a.eval x=xv at hx;generalize a.eval y=yv at hy;simp only[qop]at hq;split at hq
 ·rename_i len e id off k i h1 h2 h3;rw[h2]at hx;rw[h3]at hy;obtain rfl:=hy.cT;obtain⟨f⟩:=Γ.ty h1;split at hq
  ·rename_i te he;cases hq;obtain⟨fe⟩:=Γ.ty he;cases hx with
   |ptr b _ _ hb=>exact⟨_, .ptr b id _ hb,fun w'=>run_indexAt_array fe (lT f rfl) hc.1 hc.2 w'⟩
  ·cases hq
 ·rename_i len e cs k i h1 h2 h3;rw[h2]at hx;rw[h3]at hy;obtain rfl:=hy.cT;obtain⟨f⟩:=Γ.ty h1;split at hq
  ·rename_i te he;cases hq;obtain⟨fe⟩:=Γ.ty he;cases hx with
   | d _ _ hd => cases hd with
    |iptr b o _ hin hone h =>
     have hlt:(i.toNat+1)*te.size≤len*te.size:=Nat.mul_le_mul_right _ (by omega);rw[Nat.add_mul]at hlt;refine⟨_, .d _ _ (.iptr b (o+i.toNat*te.size) _ (by simp;omega) (fun c hc=>hone c (List.mem_of_mem_drop hc)) fun j c hcj=>?_),fun w'=>run_indexAt_array fe (lT f rfl) hc.1.1 hc.1.2 w'⟩;rw[List.getElem?_drop]at hcj;rw[Nat.add_assoc];exact h _ c hcj
  ·cases hq
 ·rename_i e sz es k i h1 h2 h3;rw[h2]at hx;rw[h3]at hy;obtain rfl:=hy.cT;obtain⟨f⟩:=Γ.ty h1;split at hq
  ·rename_i te he;cases hs:Nat.beq sz te.size with
   |false=>rw[hs]at hq;cases hq
   |true =>
    rw[hs]at hq;cases hq;cases hx with
    |d _ _ hd=>exact rJ (cQ f rfl) he hd hs hc
  ·cases hq
 ·rename_i e sz es id k i h1 h2 h3;rw[h2]at hx;rw[h3]at hy;obtain rfl:=hy.cT;obtain⟨f⟩:=Γ.ty h1;split at hq
  ·rename_i te he;cases hs:Nat.beq sz te.size with
   |false=>rw[hs]at hq;cases hq
   |true =>
    rw[hs]at hq;cases hq;exact rJ (cQ f rfl) he (Ag hx) hs hc
  ·cases hq
 ·cases hq
theorem zZ{t:Nat}{x y:Operand}(hW:bM Γ.gl G H w)(hF:df G nt a.tmps env)(hq:qop Γ nn (.index t x y) env H=some (c,v))(hc:c):
  ∃u,bA G u v∧∀w',(Instr.index t (a.eval x) (a.eval y)).run Γ.P w' = .ok u w':=by
 have hx:=bN hW hF x;have hy:=bN hW hF y;generalize a.eval x=xv at hx;generalize a.eval y=yv at hy;simp only[qop]at hq;split at hq
 ·rename_i len e cs k i h1 h2 h3;rw[h2]at hx;rw[h3]at hy;obtain rfl:=hy.cT;obtain⟨f⟩:=Γ.ty h1;split at hq
  ·rename_i te he;obtain⟨fe⟩:=Γ.ty he;cases hx with
   | d _ _ hd => cases hd with
    | agg vs _ hl hone h =>
     have run:∀{w' u},0≤i→i<len→(part e vs (i.toNat*te.size)).run Γ.P w' = .ok u w'→(Instr.index t (.agg vs) (.int k i)).run Γ.P w' = .ok u w':=fun h0 h1 hr=>by
      simp[Instr.index,asIntOf,run_underlying (lT f rfl),h0,h1,fe.sizeOf,hr]
     cases hag:te.agg with
     | true =>
      rw[hag]at hq;cases hq;have hlt:(i.toNat+1)*te.size≤len*te.size:=Nat.mul_le_mul_right _ (by omega);rw[Nat.add_mul]at hlt
      obtain⟨u,u1,u2⟩:=Af (G:=G) fe (off:=i.toNat*te.size) (x := .agg ((cs.drop (i.toNat*te.size)).take te.size)) hl hone h (by
       simp only[kC,hag,cond_true];rw[show Nat.ble (i.toNat*te.size+te.size) cs.length=true from Nat.ble_eq_true_of_le (by omega)];rfl)
      exact⟨u,u1,fun w'=>run hc.1.1 hc.1.2 (u2 w')⟩
     | false =>
      rw[hag]at hq;cases hq;have h1':=fe.one hag
      obtain⟨u,u1,u2⟩:=Af (G:=G) fe (off:=i.toNat*te.size) (x:=cs.getD i.toNat .top) hl hone h (by
       simp only[kC,hag,cond_false,h1',Nat.mul_one];exact xz (by omega))
      exact⟨u,u1,fun w'=>run hc.1.1 hc.1.2 (u2 w')⟩
  ·cases hq
 ·rename_i s k i h1 h2 h3;cases hq;rw[h2]at hx;rw[h3]at hy;obtain rfl:=hy.cT;obtain rfl:=hx.gV;obtain⟨f⟩:=Γ.ty h1;have hlt:i.toNat<s.length:=by omega
  refine⟨_, .d _ _ (.int .u8 (bt s i.toNat)),fun w'=>?_⟩;have e:((⟨s.toArray⟩:ByteArray)[i.toNat]?)=some s[i.toNat]:=by
   rw[getElem?_pos _ i.toNat (by simpa[ByteArray.size]using hlt)];rfl
  simp[Instr.index,asIntOf,run_underlying (gG f rfl),hc.1,e,bt,List.getD,List.getElem?_eq_getElem hlt]
 ·cases hq
end
end
section
open Go Go.RowKit
section
variable {Γ:Ctx}{G:aO}{H:List aN}{w w':World}{nn:Bool}{env:Env}{nt:Nat}{a:Act}{c:Prop}{v:AV}
theorem Mo{sz:Nat}{es:List D}{b o cap:Nat}(hcap:es.length≤cap)(hsz:∀e∈es,e.cells.length=sz)(hone:∀e∈es,∀c∈e.cells,c.one=true)
  (hin:o+es.length*sz≤(G.imm b).length)
  (h:∀(i:Nat) (e:D) (j:Nat) (c:D),es[i]?=some e→e.cells[j]?=some c→DRel G.imm (gv (G.imm b) (o+i*sz+j)) c) (l n:Nat) (hln:l≤n) (hn:n≤es.length) :
  DRel G.imm (sliced (some ⟨b,o,none⟩) l n cap sz) (.sl sz ((es.take n).drop l)):=by
 have hlen:((es.take n).drop l).length=n-l:=by simp;omega
 by_cases hne:n=l
 ·subst hne;have:(es.take n).drop n=[]:=List.drop_eq_nil_of_le (by simp;omega);rw[this];simp only[sliced,Nat.sub_self];split<;>exact .sl0 _ _ _
 ·have hcl:cap≠l:=by omega
  simp only[sliced,if_neg hcl,Option.map_some,addr_add];rw[←hlen];have hmul:n*sz≤es.length*sz:=Nat.mul_le_mul_right _ hn;have hmul2:(n-l)*sz+l*sz=n*sz:=by rw[←Nat.add_mul];congr 1;omega
  refine .sl b (o+l*sz) _ sz _ (fun e=>by rw[e]at hlen;simp at hlen;omega) (by omega) (fun e he=>hsz e (List.mem_of_mem_take (List.mem_of_mem_drop he)))
   (fun e he=>hone e (List.mem_of_mem_take (List.mem_of_mem_drop he))) (by rw[hlen];omega) fun i e j c he hc=>?_
  rw[List.getElem?_drop,List.getElem?_take]at he;split at he
  ·have:=h (l+i) e j c he hc
   rwa [Nat.add_mul,←Nat.add_assoc]at this
  ·cases he
theorem oG{t e:Nat}{te:TI}(fe:dQ Γ.P e te)(hu:Γ.P.underlying t=some (.slice e))(p:Option Addr)(len cap:Nat)(lo hi:Option (IntKind×Int))(l h:Nat)
  (hlo:(lo=none∧l=0)∨∃k,lo=some (k,(l:Int))) (hhi:(hi=none∧h=len)∨∃k,hi=some (k,(h:Int))) (hlh:l≤h) (hh:h≤cap) (w:World) :
  (Instr.sliceAt t (.slice p len cap) (lo.map fun x => .int x.1 x.2) (hi.map fun x => .int x.1 x.2) none).run Γ.P w = .ok (sliced p l h cap te.size) w:=by
 have hs:(Instr.sliceBounds true len cap (lo.map fun x => .int x.1 x.2) (hi.map fun x => .int x.1 x.2) none).run Γ.P w = .ok (l,h,cap) w:=by
  rcases hhi with⟨rfl,rfl⟩|⟨kh,rfl⟩<;>rcases hlo with⟨rfl,rfl⟩|⟨kl,rfl⟩
  ·simp[Instr.sliceBounds]
  ·simp[Instr.sliceBounds,run_sliceBound (P:=Γ.P) w kl (l:Int) h _ (by omega) (by omega)]
  ·simp[Instr.sliceBounds,run_sliceBound (P:=Γ.P) w kh (h:Int) cap _ (by omega) (by omega)]
  ·simp[Instr.sliceBounds,run_sliceBound (P:=Γ.P) w kh (h:Int) cap _ (by omega) (by omega),run_sliceBound (P:=Γ.P) w kl (l:Int) h _ (by omega) (by omega)]
 simp only[Instr.sliceAt,Sem.run_bind,run_underlying hu,Result.andThen_ok,Instr.slice,hs,fe.sizeOf,Sem.run_pure,sliced]
theorem ni{t:Nat}(hu:Γ.P.underlying t=some .string)(s:List UInt8)(lo hi:Option (IntKind×Int))(l h:Nat)
  (hlo:(lo=none∧l=0)∨∃k,lo=some (k,(l:Int))) (hhi:(hi=none∧h=s.length)∨∃k,hi=some (k,(h:Int))) (hlh:l≤h) (hh:h≤s.length) (w:World) :
  (Instr.sliceAt t (.string ⟨s.toArray⟩) (lo.map fun x => .int x.1 x.2) (hi.map fun x => .int x.1 x.2) none).run Γ.P w = .ok (.string ⟨((s.take h).drop l).toArray⟩) w:=by
 have hsz:(⟨s.toArray⟩:ByteArray).size=s.length:=by simp[ByteArray.size]
 have hs:(Instr.sliceBounds false s.length s.length (lo.map fun x => .int x.1 x.2) (hi.map fun x => .int x.1 x.2) none).run Γ.P w = .ok (l,h,s.length) w:=by
  rcases hhi with⟨rfl,rfl⟩|⟨kh,rfl⟩<;>rcases hlo with⟨rfl,rfl⟩|⟨kl,rfl⟩
  ·simp[Instr.sliceBounds]
  ·simp[Instr.sliceBounds,run_sliceBound (P:=Γ.P) w kl (l:Int) s.length _ (by omega) (by omega)]
  ·simp[Instr.sliceBounds,run_sliceBound (P:=Γ.P) w kh (h:Int) s.length _ (by omega) (by omega)]
  ·simp[Instr.sliceBounds,run_sliceBound (P:=Γ.P) w kh (h:Int) s.length _ (by omega) (by omega),run_sliceBound (P:=Γ.P) w kl (l:Int) h _ (by omega) (by omega)]
 have hex:(⟨s.toArray⟩:ByteArray).extract l h=⟨((s.take h).drop l).toArray⟩:=by
  apply ByteArray.ext;simp[ByteArray.data_extract,List.extract_eq_drop_take']
 simp only[Instr.sliceAt,Sem.run_bind,run_underlying hu,Result.andThen_ok,Instr.slice,hsz,hs,Option.isSome_none,Bool.false_eq_true,if_false,Sem.run_pure,hex]
theorem DRel.I2{sz:Nat}{es:List D}{u:Value}(h:DRel G.imm u (.sl sz es))(l n:Nat)(hln:l≤n)(hn:n≤es.length):
  ∃p cap,u = .slice p es.length cap∧es.length≤cap∧DRel G.imm (sliced p l n cap sz) (.sl sz ((es.take n).drop l)):=by
 cases h with
 |sl0 p cap =>
  have h0:l=0:=by simp at hn;omega
  have h1:n=0:=by simpa using hn
  subst h0;subst h1;refine⟨p,cap,rfl,by simp,?_⟩;simp only[sliced,List.take_nil,List.drop_nil];exact .sl0 _ _ _
 |sl b o cap _ _ hne hcap hsz hone hin h=>exact⟨_,cap,rfl,hcap,Mo hcap hsz hone hin h l n hln hn⟩
theorem zY{t:Nat}{x:Operand}{lo hi:Option Operand}(hW:bM Γ.gl G H w)(hF:df G nt a.tmps env)(hq:qop Γ nn (.slice t x lo hi none) env H=some (c,v))(hc:c):
  ∃u,bA G u v∧∀w',(Instr.sliceAt t (a.eval x) (lo.map a.eval) (hi.map a.eval) none).run Γ.P w' = .ok u w':=by
 have hx:=bN hW hF x;have opt:∀(z:Option Operand) (k:IntKind) (n:Int),z.map (ev Γ env)=some (.d (.int k n))→z.map a.eval=some (.int k n):=fun z k n h=>by
  cases z with
  |none=>cases h
  |some z =>
   have hz:=bN hW hF z;simp only[Option.map_some,Option.some.injEq]at h ⊢;rw[h]at hz;exact hz.cT
 have optn:∀(z:Option Operand),z.map (ev Γ env)=none→z.map a.eval=none:=fun z h=>by cases z<;>simp_all
 generalize a.eval x=xv at hx;simp only[qop]at hq;split at hq
 ·rename_i s k l k' h h1 h2 h3 h4;cases hq;rw[h2]at hx;obtain rfl:=hx.gV;obtain⟨f⟩:=Γ.ty h1;have hr:=ni (gG f rfl) s (some (k,l)) (some (k',h)) l.toNat h.toNat (.inr ⟨k,by rw[Int.toNat_of_nonneg hc.1]⟩) (.inr ⟨k',by rw[Int.toNat_of_nonneg (by omega)]⟩) (by omega) (by omega);exact⟨_, .d _ _ (.str _),fun w'=>by rw[opt _ _ _ h3,opt _ _ _ h4];exact hr w'⟩
 ·rename_i s k l h1 h2 h3 h4;cases hq;rw[h2]at hx;obtain rfl:=hx.gV;obtain⟨f⟩:=Γ.ty h1;have hr:=ni (gG f rfl) s (some (k,l)) none l.toNat s.length (.inr ⟨k,by rw[Int.toNat_of_nonneg hc.1]⟩) (.inl ⟨rfl,rfl⟩) (by omega) (by omega);exact⟨.string ⟨(s.drop l.toNat).toArray⟩, .d _ _ (.str _),fun w'=>by rw[opt _ _ _ h3,optn _ h4];simpa using hr w'⟩
 ·rename_i s k h h1 h2 h3 h4;cases hq;rw[h2]at hx;obtain rfl:=hx.gV;obtain⟨f⟩:=Γ.ty h1;have hr:=ni (gG f rfl) s none (some (k,h)) 0 h.toNat (.inl ⟨rfl,rfl⟩) (.inr ⟨k,by rw[Int.toNat_of_nonneg hc.1]⟩) (by omega) (by omega);exact⟨.string ⟨(s.take h.toNat).toArray⟩, .d _ _ (.str _),fun w'=>by rw[optn _ h3,opt _ _ _ h4];simpa using hr w'⟩
 ·rename_i e sz es k l k' h h1 h2 h3 h4;split at hq
  ·rename_i te he;cases hs:Nat.beq sz te.size with
   |false=>rw[hs]at hq;cases hq
   | true =>
    rw[hs]at hq;cases hq;have:=Nat.eq_of_beq_eq_true hs;subst this;obtain⟨f⟩:=Γ.ty h1;obtain⟨fe⟩:=Γ.ty he;rw[h2]at hx;cases hx with
    |d _ _ hd =>
     obtain⟨p,cap,rfl,hcap,hr⟩:=hd.I2 l.toNat h.toNat (by omega) (by omega);refine⟨_, .d _ _ hr,fun w'=>?_⟩;rw[opt _ _ _ h3,opt _ _ _ h4];exact oG fe (cQ f rfl) p es.length cap (some (k,l)) (some (k',h)) l.toNat h.toNat (.inr ⟨k,by rw[Int.toNat_of_nonneg hc.1]⟩) (.inr ⟨k',by rw[Int.toNat_of_nonneg (by omega)]⟩) (by omega) (by omega) w'
  ·cases hq
 ·rename_i e sz es k l h1 h2 h3 h4;split at hq
  ·rename_i te he;cases hs:Nat.beq sz te.size with
   |false=>rw[hs]at hq;cases hq
   | true =>
    rw[hs]at hq;cases hq;have:=Nat.eq_of_beq_eq_true hs;subst this;obtain⟨f⟩:=Γ.ty h1;obtain⟨fe⟩:=Γ.ty he;rw[h2]at hx;cases hx with
    |d _ _ hd =>
     obtain⟨p,cap,rfl,hcap,hr⟩:=hd.I2 l.toNat es.length (by omega) (by omega);rw[List.take_length]at hr;refine⟨_, .d _ _ hr,fun w'=>?_⟩;rw[opt _ _ _ h3,optn _ h4];exact oG fe (cQ f rfl) p es.length cap (some (k,l)) none l.toNat es.length (.inr ⟨k,by rw[Int.toNat_of_nonneg hc.1]⟩) (.inl ⟨rfl,rfl⟩) (by omega) (by omega) w'
  ·cases hq
 ·rename_i e sz es k h h1 h2 h3 h4;split at hq
  ·rename_i te he;cases hs:Nat.beq sz te.size with
   |false=>rw[hs]at hq;cases hq
   | true =>
    rw[hs]at hq;cases hq;have:=Nat.eq_of_beq_eq_true hs;subst this;obtain⟨f⟩:=Γ.ty h1;obtain⟨fe⟩:=Γ.ty he;rw[h2]at hx;cases hx with
    |d _ _ hd =>
     obtain⟨p,cap,rfl,hcap,hr⟩:=hd.I2 0 h.toNat (by omega) (by omega);rw[List.drop_zero]at hr;refine⟨_, .d _ _ hr,fun w'=>?_⟩;rw[optn _ h3,opt _ _ _ h4];exact oG fe (cQ f rfl) p es.length cap none (some (k,h)) 0 h.toNat (.inl ⟨rfl,rfl⟩) (.inr ⟨k,by rw[Int.toNat_of_nonneg (by omega)]⟩) (by omega) (by omega) w'
  ·cases hq
 ·cases hq
theorem Nt{u:Value}{x:AV}{n:Int}(h:bA G u x)(hn:P9 x=some n){t ty:Nat}(hk:∃e,Γ.P.underlying t=some (.slice e)):
  ∀w',(Builtin.len_ #[t] ty #[u]).run Γ.P w' = .ok (.int .i64 n) w':=by
 intro w';obtain⟨e,he⟩:=hk;have sl:∀p (m:Nat) cap,u = .slice p m cap→n=m→(Builtin.len_ #[t] ty #[u]).run Γ.P w' = .ok (.int .i64 n) w':=fun p m cap hu hn=>by
  subst hu;subst hn;simp[Builtin.len_,run_underlying he,goInt]
 unfold P9 at hn;split at hn
 ·cases hn;cases h with|d _ _ hd=>cases hd with
   |sl0=>exact sl _ _ _ rfl rfl
   |sl=>exact sl _ _ _ rfl rfl
 ·cases hn;cases h with|d _ _ hd=>cases hd;exact sl _ _ _ rfl rfl
 ·cases hn;have hd:=Ag h;cases hd with
  |sl0=>exact sl _ _ _ rfl rfl
  |sl=>exact sl _ _ _ rfl rfl
 ·cases hn
theorem vV{u:Value}{x:AV}{n:Int}(h:bA G u x)(hn:x.Hv=some n):u = .int .i64 n:=by
 unfold AV.Hv at hn;split at hn
 ·cases hn;exact h.cT
 ·cases hn
theorem Nl{l:List AV}:∀{x:Int} {vs:List Value} {r:AV},vs.length=l.length→(∀(i:Nat) (c:AV),l[i]?=some c→bA G (gv vs i) c)→J5 x l=some r →
  ∃n,r = .d (.int .i64 n)∧∀(P:Program) w',(vs.foldlM Builtin.max2 (.int .i64 x):Sem Value).run P w' = .ok (.int .i64 n) w':=by
 induction l with
 |nil =>
  intro x vs r hl h hr;cases vs with
  |nil=>simp[J5]at hr;exact⟨x,hr.symm,fun P w'=>by simp⟩
  |cons _ _=>simp at hl
 | cons a l ih =>
  intro x vs r hl h hr;cases vs with
  |nil=>simp at hl
  | cons u vs =>
   simp only[J5]at hr;split at hr
   ·rename_i y he;have h0:u = .int .i64 y:=vV (h 0 _ rfl) he;obtain⟨n,hn,hrun⟩:=ih (vs:=vs) (by simpa using hl) (fun i c hc=>by simpa[gv]using h (i+1) c (by simpa using hc)) hr;refine⟨n,hn,fun P w'=>?_⟩;have e:(if y>x then y else x)=max x y:=by rw[Int.max_def];split<;>split<;>omega
    simp only[List.foldlM_cons,h0,Builtin.max2,e,Sem.run_bind,Sem.run_pure,Result.andThen_ok,hrun]
   ·cases hr
theorem M5{l:List AV}:∀{x:Int} {vs:List Value} {r:AV},vs.length=l.length→(∀(i:Nat) (c:AV),l[i]?=some c→bA G (gv vs i) c)→JN x l=some r →
  ∃n,r = .d (.int .i64 n)∧∀(P:Program) w',(vs.foldlM Builtin.min2 (.int .i64 x):Sem Value).run P w' = .ok (.int .i64 n) w':=by
 induction l with
 |nil =>
  intro x vs r hl h hr;cases vs with
  |nil=>simp[JN]at hr;exact⟨x,hr.symm,fun P w'=>by simp⟩
  |cons _ _=>simp at hl
 | cons a l ih =>
  intro x vs r hl h hr;cases vs with
  |nil=>simp at hl
  | cons u vs =>
   simp only[JN]at hr;split at hr
   ·rename_i y he;have h0:u = .int .i64 y:=vV (h 0 _ rfl) he;obtain⟨n,hn,hrun⟩:=ih (vs:=vs) (by simpa using hl) (fun i c hc=>by simpa[gv]using h (i+1) c (by simpa using hc)) hr;refine⟨n,hn,fun P w'=>?_⟩;have e:(if y<x then y else x)=min x y:=by rw[Int.min_def];split<;>split<;>omega
    simp only[List.foldlM_cons,h0,Builtin.min2,e,Sem.run_bind,Sem.run_pure,Result.andThen_ok,hrun]
   ·cases hr
theorem qw(hW:bM Γ.gl G H w)(hF:df G nt a.tmps env)(l:Array Operand):(l.map a.eval).size=(avs Γ env l).length∧∀(i:Nat) (c:AV),(avs Γ env l)[i]?=some c→bA G (gv (l.map a.eval).toList i) c:=by
 refine⟨by simp[avs],fun i c hc=>?_⟩;simp only[avs,List.getElem?_map]at hc;cases hl:l.toList[i]? with
 |none=>simp[hl]at hc
 |some x =>
  simp[hl]at hc;subst hc;have:(l.map a.eval).toList[i]?=some (a.eval x):=by simp at hl ⊢;exact⟨x,hl,rfl⟩
  simp only[gv,List.getD,this,Option.getD_some];exact bN hW hF x
theorem Ns{y:Operand}{n:Nat}(h:P8 y=some n):∃k,a.eval y = .int k (n:Int):=by
 unfold P8 at h;split at h
 ·cases h;exact⟨_,rfl⟩
 ·cases h
theorem Ab{op:BinOp}{t t':Nat}{x y:Operand}(hW:bM Γ.gl G H w)(hF:df G nt a.tmps env)(hq:qop Γ nn (.binOp op t x y t') env H=some (c,v))(hc:c):
  ∃u,bA G u v∧∀w',(do eqGuard op t x y (a.eval x) (a.eval y);binOp op t (a.eval x) (a.eval y):Sem Value).run Γ.P w' = .ok u w':=by
 have hx:=bN hW hF x;have hy:=bN hW hF y;simp only[qop,Ry]at hq;split at hq
 ·rename_i n h1 h2;obtain⟨ky,hky⟩:=Ns (a:=a) h2;rw[hky];generalize a.eval x=xv at hx;unfold shX at hq;split at hq
  ·rename_i k z he;rw[he]at hx;obtain rfl:=hx.cT;obtain⟨r,r1,r2⟩:=Fb (P:=Γ.P) (G:=G) (y:=(n:Int)) (yk:=ky) (by simpa using hq) hc (by omega) t;exact⟨r,r1,fun w'=>by simp[jW,r2]⟩
  ·rename_i k z he;rw[he]at hx;obtain rfl:=hx.cT;cases hq;exact⟨_, .d _ _ (.int ..),fun w'=>by
    simp only[Sem.run_bind,jW,Result.andThen_ok,binOp,Op.shift,if_neg (show ¬(n:Int)<0 by omega),Int.toNat_natCast,Nat.min_eq_left hc];rw[Int.fdiv_eq_ediv_of_nonneg _ (Int.le_of_lt (Int.pow_pos (by omega)))];simp⟩
  ·cases hq
 ·cases hbt:AB (aY Γ.T t)with
  | true =>
   rw[hbt,cond_true]at hq;unfold AB at hbt;split at hbt
   ·rename_i h1;obtain⟨f⟩:=Γ.ty h1;exact HT hx hy hq t (pJ f rfl) x y
   ·cases hbt
  |false =>
  rw[hbt,cond_false]at hq;cases hp:Ke (aY Γ.T t)with
  | true =>
   rw[hp,cond_true]at hq;split at hq
   ·rename_i b hb;cases hq;unfold Ke at hp;split at hp
    ·rename_i e h1;obtain⟨f⟩:=Γ.ty h1;exact⟨_, .d _ _ (.bool b),KQ hx hy hb t ⟨_,LY f rfl⟩ x y⟩
    ·cases hp
   ·cases hq
  |false =>
   rw[hp,cond_false]at hq;exact Oz hx hy hq hc t x y
theorem mO{cl:Call}{b:Builtin}(hcal:cl.callee = .builtin b)(ty:Nat)(w:World):
  ∃cs,(do let d ←resolve a.eval cl ty;invoke d.target d.args:Sem Next).run Γ.P w=(builtin b cl.argTypes ty cs (cl.args.map a.eval)).run Γ.P w:=by
 simp only[resolve,hcal,Sem.run_bind,Sem.run_pure,Result.andThen_ok,invoke];exact⟨_,rfl⟩
theorem Eb{cl:Call}(hW:bM Γ.gl G H w)(hF:df G nt a.tmps env)(hq:BU Γ env cl=some (c,v))(ty:Nat):
  ∃u,bA G u v∧∀w',(do let d ←resolve a.eval cl ty;invoke d.target d.args:Sem Next).run Γ.P w' = .ok (.value u) w':=by
 obtain⟨a1,a2⟩:=qw (Γ:=Γ) hW hF cl.args;unfold BU at hq;split at hq
 ·rename_i hcal;split at hq
  ·rename_i x t hx ht;have hxe:=bN hW hF x;have e1:cl.args=#[x]:=by rw[←Array.toList_inj];exact hx
   have e2:cl.argTypes=#[t]:=by rw[←Array.toList_inj];exact ht
   unfold Rx at hq;split at hq
   ·rename_i s h1 h2;cases hq;rw[h2]at hxe;obtain⟨f⟩:=Γ.ty h1;have hl:(Builtin.len_ #[t] ty #[.string ⟨s.toArray⟩]).run Γ.P=fun w' => .ok (.int .i64 s.length) w':=by
     funext w'
     have hsz:(⟨s.toArray⟩:ByteArray).size=s.length:=List.size_toArray;simp[Builtin.len_,run_underlying (gG f rfl),goInt,hsz]
    exact⟨_, .d _ _ (.int ..),fun w'=>by
     obtain⟨cs,hcs⟩:=mO (a:=a) hcal ty w';rw[hcs];simp only[builtin,e1,e2,List.map_toArray,List.map_cons,List.map_nil,hxe.gV,Sem.run_bind,hl,Result.andThen_ok,Sem.run_pure]⟩
   ·rename_i x' e h1;split at hq
    ·rename_i n hn;cases hq;obtain⟨f⟩:=Γ.ty h1;have:=Nt (Γ:=Γ) (ty:=ty) hxe hn ⟨e,cQ f rfl⟩;exact⟨_, .d _ _ (.int ..),fun w'=>by
      obtain⟨cs,hcs⟩:=mO (a:=a) hcal ty w';rw[hcs];simp only[builtin,e1,e2,List.map_toArray,List.map_cons,List.map_nil,Sem.run_bind,this w',Result.andThen_ok,Sem.run_pure]⟩
    ·cases hq
   ·cases hq
  ·cases hq
 ·rename_i hcal;split at hq
  ·rename_i v' hv;cases hq;unfold RS at hv;split at hv
   ·cases hv
   ·rename_i b r hb;split at hv
    ·rename_i y hy;rw[hb]at a1 a2;have e:∃u us,(cl.args.map a.eval).toList=u::us:=by
      cases hl:(cl.args.map a.eval).toList with
      |nil=>rw[←Array.length_toList,hl]at a1;simp at a1
      |cons u us=>exact⟨u,us,rfl⟩
     obtain⟨u,us,he⟩:=e;rw[←Array.length_toList,he]at a1;rw[he]at a2;have h0:u = .int .i64 y:=vV (a2 0 _ rfl) hy;obtain⟨n,rfl,hr⟩:=Nl (vs:=us) (by simpa using a1) (fun i c hc=>by simpa[gv]using a2 (i+1) c (by simpa using hc)) hv;exact⟨_, .d _ _ (.int ..),fun w'=>by
      obtain⟨cs,hcs⟩:=mO (a:=a) hcal ty w';rw[hcs];simp only[builtin,Builtin.max_,he,h0,hr,Sem.run_bind,Result.andThen_ok,Sem.run_pure]⟩
    ·cases hv
  ·cases hq
 ·rename_i hcal;split at hq
  ·rename_i v' hv;cases hq;unfold RQ at hv;split at hv
   ·cases hv
   ·rename_i b r hb;split at hv
    ·rename_i y hy;rw[hb]at a1 a2;have e:∃u us,(cl.args.map a.eval).toList=u::us:=by
      cases hl:(cl.args.map a.eval).toList with
      |nil=>rw[←Array.length_toList,hl]at a1;simp at a1
      |cons u us=>exact⟨u,us,rfl⟩
     obtain⟨u,us,he⟩:=e;rw[←Array.length_toList,he]at a1;rw[he]at a2;have h0:u = .int .i64 y:=vV (a2 0 _ rfl) hy;obtain⟨n,rfl,hr⟩:=M5 (vs:=us) (by simpa using a1) (fun i c hc=>by simpa[gv]using a2 (i+1) c (by simpa using hc)) hv;exact⟨_, .d _ _ (.int ..),fun w'=>by
      obtain⟨cs,hcs⟩:=mO (a:=a) hcal ty w';rw[hcs];simp only[builtin,Builtin.min_,he,h0,hr,Sem.run_bind,Result.andThen_ok,Sem.run_pure]⟩
    ·cases hv
  ·cases hq
 ·cases hq
theorem pU{o:Oper}(hW:bM Γ.gl G H w)(hF:df G nt a.tmps env)(hq:qop Γ nn o.op env H=some (c,v))(hc:c):
  ∃u,bA G u v∧∀w',Below w.heap.size w w'→(execOp a.eval o).run Γ.P w' = .ok (.value u) w':=by
 unfold execOp;generalize hop:o.op=op at hq;cases op<;>try (simp[qop]at hq;done)
 case move x=>simp only[qop,jP,Option.some.injEq,Prod.mk.injEq]at hq;obtain⟨rfl,rfl⟩:=hq;exact⟨_,bN hW hF x,fun w' _=>rfl⟩
 case assign x=>simp only[qop,jP,Option.some.injEq,Prod.mk.injEq]at hq;obtain⟨rfl,rfl⟩:=hq;exact⟨_,bN hW hF x,fun w' _=>rfl⟩
 case pick x y z =>
  obtain⟨u,h1,h2⟩:=Ea hW hF hq;exact⟨u,h1,fun w' _=>h2 w'⟩
 case load t x =>
  obtain⟨u,h1,h2⟩:=PH hW hF hq;exact⟨u,h1,fun w' hb=>by simp[h2 w' hb]⟩
 case fieldAddr s x f =>
  obtain⟨u,h1,h2⟩:=pW hW hF hq;exact⟨u,h1,fun w' hb=>by simp[h2 w']⟩
 case field s x f =>
  obtain⟨u,h1,h2⟩:=Aa hW hF hq;exact⟨u,h1,fun w' hb=>by simp[h2 w']⟩
 case indexAddr t x y =>
  obtain⟨u,h1,h2⟩:=pV hW hF hq hc;exact⟨u,h1,fun w' hb=>by simp[h2 w']⟩
 case index t x y =>
  obtain⟨u,h1,h2⟩:=zZ hW hF hq hc;exact⟨u,h1,fun w' hb=>by simp[h2 w']⟩
 case slice t x lo hi mx =>
  cases mx with
  |some m=>simp[qop]at hq
  |none =>
   obtain⟨u,h1,h2⟩:=zY hW hF hq hc;exact⟨u,h1,fun w' hb=>by simp[h2 w']⟩
 case binOp op t x y t' =>
  obtain⟨u,h1,h2⟩:=Ab hW hF hq hc;exact⟨u,h1,fun w' hb=>by have:=h2 w';simp only[Sem.run_bind]at this ⊢;simp[this]⟩
 case makeFunc f first cap =>
  simp only[qop,Option.some.injEq,Prod.mk.injEq]at hq;obtain⟨rfl,rfl⟩:=hq;obtain⟨a1,a2⟩:=qw (Γ:=Γ) hW hF first
  obtain⟨b1,b2⟩:=qw (Γ:=Γ) hW hF cap;exact⟨_, .fn f _ _ _ _ a1 b1 a2 b2,fun w' _=>by simp[Instr.makeFunc]⟩
 case unOp op t x =>
  have hx:=bN hW hF x;cases op<;>try (simp[qop]at hq;done)
  case neg =>
   simp only[qop]at hq;split at hq
   ·rename_i k n he;rw[he]at hx;exact⟨_,qM hq hc,fun w' _=>by simp[hx.cT,Op.unary,Op.intArith]⟩
   ·cases hq
  case not =>
   simp only[qop]at hq;split at hq
   ·rename_i b he;rw[he]at hx;cases hq;exact⟨_, .d _ _ (.bool _),fun w' _=>by simp[hx.fT,Op.unary]⟩
   ·cases hq
 case nilCheck x =>
  have hx:=bN hW hF x;simp only[qop]at hq;split at hq
  ·rename_i i o he;cases hq;rw[he]at hx;generalize hxv:a.eval x=xv at hx;cases hx with|ptr b _ _ hb=>exact⟨_, .ptr b _ _ hb,fun w' _=>by simp[hxv]⟩
  ·rename_i i n sz j o he;cases hq;rw[he]at hx;generalize hxv:a.eval x=xv at hx;cases hx with|eptr b cap _ _ _ _ _ hb=>exact⟨_, .eptr b cap _ _ _ _ _ hb,fun w' _=>by simp[hxv]⟩
  ·rename_i cs he;cases hq;rw[he]at hx;generalize hxv:a.eval x=xv at hx;cases hx with|d _ _ hd=>cases hd with|iptr b o _ h1 h2 h3=>exact⟨_, .d _ _ (.iptr b o _ h1 h2 h3),fun w' _=>by simp[hxv]⟩
  ·rename_i i he;cases hq;rw[he]at hx;generalize hxv:a.eval x=xv at hx;cases hx with|it b _ hb=>exact⟨_, .it b _ hb,fun w' _=>by simp[hxv]⟩
  ·cases hq
 case extract x i =>
  have hx:=bN hW hF x;simp only[qop]at hq;split at hq
  ·rename_i vs he;split at hq
   ·rename_i v' hv;cases hq;rw[he]at hx;generalize hxv:a.eval x=xv at hx;cases hx with
    |cH us _ hl h =>
     refine⟨_,h i v hv,fun w' _=>?_⟩;have hlt:=aI hv;have:us[i]?=some (gv us.toList i):=by simp[gv,List.getD,show i<us.size by omega]
     simp[hxv,Instr.extract,this]
   ·cases hq
  ·cases hq
 case convert s d x =>
  have hx:=bN hW hF x;simp only[qop]at hq;split at hq
  ·rename_i tis k k' n h1 h2 h3;rw[h3]at hx;obtain⟨fs⟩:=Γ.ty h1;obtain⟨fd⟩:=Γ.ty h2;refine⟨_,xp hq hc,fun w' _=>?_⟩;simp[hx.cT,convert,run_underlying fs.und,run_underlying (kX fd rfl),Conv.intToInt]
  ·rename_i s' h1 h2 h3;cases hq;rw[h3]at hx;obtain⟨fs⟩:=Γ.ty h1;obtain⟨fd⟩:=Γ.ty h2;refine⟨_,hx,fun w' _=>?_⟩;simp[hx.gV,convert,run_underlying (gG fs rfl),run_underlying (gG fd rfl)]
  ·cases hq
 case call cl =>
  obtain⟨u,h1,h2⟩:=Eb hW hF (by simpa only [qop]using hq) o.type;exact⟨u,h1,fun w' _=>h2 w'⟩
end
end
section
open Go Go.RowKit
inductive It where
 |code (c:Code)
 |ops (all:Array Oper) (l:List Oper)
 |qops (all:Array Oper) (l:List Oper)
 |sops (all:Array Oper) (l:List Oper)
 |blk (id:Nat)
 |lp (body:Code)
def wpIn(P:Program)(c:Code)(Q:Exit→Act→World→Prop)(a:Act)(w:World):Prop :=
 ∀(b:Frame) (k:List Item) (cs:List Frame),∃e a' w',Q e a' w'∧Arrives P (lone (b.at a (.code c :: .inLoop c::k)) cs w) b k cs e a' w'
theorem wz{P:Program}{c:Code}{Q:Exit→Act→World→Prop}{a:Act}{w:World}(h:c.wp P (Exit.then (wpIn P c Q) Q) a w):wpIn P c Q a w:=by
 intro b k cs;obtain⟨e,a₁,w₁,hq,harr⟩:=h b (.inLoop c::k) cs;cases e with
 |normal =>
  obtain⟨e₂,a₂,w₂,hq₂,harr₂⟩:=hq b k cs;exact⟨e₂,a₂,w₂,hq₂, .of_steps (Steps.trans harr (.one step_inLoop)) harr₂⟩
 |exit id=>exact⟨_,a₁,w₁,hq, .pass (x := .inLoop c) rfl (fun _ _ => .inl (by simp)) harr⟩
 |goto l=>exact⟨_,a₁,w₁,hq, .pass (x := .inLoop c) rfl (fun _ _ => .inl (by simp)) harr⟩
 |ret=>exact⟨_,a₁,w₁,hq, .pass (x := .inLoop c) rfl (fun _ _ => .inl (by simp)) harr⟩
 |panic ch=>exact⟨_,a₁,w₁,hq, .pass (x := .inLoop c) rfl (fun _ _ => .inl (by simp)) harr⟩
 |outgrown=>exact⟨_,a₁,w₁,hq, .pass (x := .inLoop c) rfl (fun _ _ => .inl (by simp)) harr⟩
theorem DC{P:Program}{c:Code}{Q:Exit→Act→World→Prop}{a:Act}{w:World}(h:wpIn P c Q a w):(Code.loop c).wp P Q a w:=by
 intro b k cs;obtain⟨e,a',w',hq,harr⟩:=h b k cs;exact⟨e,a',w',hq, .of_steps (.one step_loop) harr⟩
def aZ(P:Program)(Q:Exit→Act→World→Prop):List It→Exit→Act→World→Prop
 |[],e,a,w=>Q e a w
 | .code c::k, .normal,a,w=>c.wp P (aZ P Q k) a w
 | .ops all l::k, .normal,a,w=>wpList P all (aZ P Q k) l a w
 | .qops all l::k, .normal,a,w=>wpQuiet P all (fun w'=>Below w.heap.size w w') (fun a'=>∀w',Below w.heap.size w w'→aZ P Q k .normal a' w') l a
 | .sops all l::k, .normal,a,w=>wpStill P all w (fun a'=>aZ P Q k .normal a' w) l a
 | .lp c::k, .normal,a,w=>wpIn P c (aZ P Q k) a w
 | .blk id::k, .normal,a,w=>aZ P Q k .normal a w
 | .blk id::k, .exit j,a,w=>if j=id then aZ P Q k .normal a w else aZ P Q k (.exit j) a w
 |_::k,e,a,w=>aZ P Q k e a w
theorem zW(P:Program)(Q:Exit→Act→World→Prop)(id:Nat)(k:List It):aZ P Q (.blk id::k)=Exit.inBlock id (aZ P Q k):=by
 funext e a w
 cases e<;>simp[aZ,Exit.inBlock]
theorem G7(P:Program)(Q:Exit→Act→World→Prop)(c:Code)(k:List It):aZ P Q (.code c::k)=Exit.then (c.wp P (aZ P Q k)) (aZ P Q k):=by
 funext e a w
 cases e<;>simp[aZ,Exit.then]
theorem Fj(P:Program)(Q:Exit→Act→World→Prop)(c:Code)(k:List It):aZ P Q (.lp c::k)=Exit.then (wpIn P c (aZ P Q k)) (aZ P Q k):=by
 funext e a w
 cases e<;>simp[aZ,Exit.then]
def unwind(id:Nat):List It→Option (List It)
 |[]=>none
 | .blk j::k=>bif Nat.beq id j then some k else unwind id k
 |_::k=>unwind id k
theorem jU{P:Program}{Q:Exit→Act→World→Prop}{id:Nat}:∀{k k':List It},unwind id k=some k'→∀a w,aZ P Q k (.exit id) a w=aZ P Q k' .normal a w
 |[],_,h,_,_=>by cases h
 | .blk j :: k, k', h, a, w => by
  simp only[unwind]at h;cases hb:Nat.beq id j with
  |true=>rw[hb]at h;cases h;have:=Nat.eq_of_beq_eq_true hb;simp[aZ,this]
  |false =>
   rw[hb]at h;have:=Nat.ne_of_beq_eq_false hb;simp only[aZ,if_neg this];exact jU h a w
 | .code c::k,k',h,a,w=>by simp only[aZ];exact jU (by simpa[unwind]using h) a w
 | .ops _ _::k,k',h,a,w=>by simp only[aZ];exact jU (by simpa[unwind]using h) a w
 | .qops _ _::k,k',h,a,w=>by simp only[aZ];exact jU (by simpa[unwind]using h) a w
 | .sops _ _::k,k',h,a,w=>by simp only[aZ];exact jU (by simpa[unwind]using h) a w
 | .lp _::k,k',h,a,w=>by simp only[aZ];exact jU (by simpa[unwind]using h) a w
theorem lm{P:Program}{Q:Exit→Act→World→Prop}:∀(k:List It) (a:Act) (w:World),aZ P Q k .ret a w=Q .ret a w
 |[],_,_=>rfl
 | .blk j::k,a,w=>by simp only[aZ];exact lm k a w
 | .code c::k,a,w=>by simp only[aZ];exact lm k a w
 | .ops _ _::k,a,w=>by simp only[aZ];exact lm k a w
 | .qops _ _::k,a,w=>by simp only[aZ];exact lm k a w
 | .sops _ _::k,a,w=>by simp only[aZ];exact lm k a w
 | .lp _::k,a,w=>by simp only[aZ];exact lm k a w
abbrev Post:=Exit→Env→List aN→Prop
def Conc(Γ:Ctx)(nt n0:Nat)(G0:aO)(Q:Post)(e:Exit)(a:Act)(w:World):Prop :=
 ∃G env H,GLe n0 G0 G∧n0≤H.length∧df G nt a.tmps env∧a.defers=[]∧bM Γ.gl G H w∧Q e env H
def aa(Γ:Ctx)(nt n0:Nat)(k:List It)(Q:Post)(env:Env)(H:List aN):Prop :=
 ∀G0 G a w,GLe n0 G0 G→n0≤H.length→df G nt a.tmps env→a.defers=[]→bM Γ.gl G H w→aZ Γ.P (Conc Γ nt n0 G0 Q) k .normal a w
def qp(P:Program)(f:FuncId):Bool :=
 match P.funcs[f]? with
 | some fn => fn.body.isSome && !(fn.name == "runtime.NumGoroutine")
 |none=>false
def jZ(G:aO)(vs:Array Value)(as:List AV):Prop:=vs.size=as.length∧∀(i:Nat) (c:AV),as[i]?=some c→bA G (gv vs.toList i) c
def ACalls(Γ:Ctx)(f:FuncId)(args:List AV)(H:List aN)(R:AV→List aN→Prop):Prop :=
 qp Γ.P f=true∧∀G w vs,bM Γ.gl G H w→jZ G vs args →
  Calls Γ.P f vs w fun e w'=>∃v r H' G',e = .returned v∧R r H'∧H.length≤H'.length∧GLe H.length G G'∧bA G' v r∧bM Γ.gl G' H' w'
theorem ACalls.mono{Γ:Ctx}{f:FuncId}{args:List AV}{H:List aN}{R R':AV→List aN→Prop}(h:ACalls Γ f args H R)(hr:∀r H',R r H'→R' r H'):ACalls Γ f args H R' :=
 ⟨h.1,fun G w vs hW hA=>(h.2 G w vs hW hA).mono fun e w' ⟨v,r,H',G',h1,h2,h3⟩=>⟨v,r,H',G',h1,hr r H' h2,h3⟩⟩
section
variable {Γ:Ctx}{nt n0:Nat}{k:List It}{Q:Post}{env:Env}{H:List aN}{nn:Bool}
theorem aa.seq{x y:Code}(h:aa Γ nt n0 (.code x :: .code y::k) Q env H):aa Γ nt n0 (.code (.seq x y)::k) Q env H :=
 fun G0 G a w h0 hl hF hd hW=>by
  have:=h G0 G a w h0 hl hF hd hW;simp only[aZ]at this ⊢;refine wp_seq ?_
  rwa [G7]at this
theorem aa.block{id:Nat}{x:Code}(h:aa Γ nt n0 (.code x :: .blk id::k) Q env H):aa Γ nt n0 (.code (.block id x)::k) Q env H :=
 fun G0 G a w h0 hl hF hd hW=>by
  have:=h G0 G a w h0 hl hF hd hW;simp only[aZ]at this ⊢;refine wp_block ?_
  rwa [zW]at this
theorem aa.di{x:Code}(h:aa Γ nt n0 (.code x :: .lp x::k) Q env H):aa Γ nt n0 (.code (.loop x)::k) Q env H :=
 fun G0 G a w h0 hl hF hd hW=>by
  have:=h G0 G a w h0 hl hF hd hW;simp only[aZ]at this ⊢;refine DC (wz ?_)
  rwa [Fj]at this
theorem aa.lpU{x:Code}(h:aa Γ nt n0 (.code x :: .lp x::k) Q env H):aa Γ nt n0 (.lp x::k) Q env H :=
 fun G0 G a w h0 hl hF hd hW=>by
  have:=h G0 G a w h0 hl hF hd hW;simp only[aZ]at this ⊢;refine wz ?_
  rwa [Fj]at this
theorem aa.blk{id:Nat}(h:aa Γ nt n0 k Q env H):aa Γ nt n0 (.blk id::k) Q env H :=
 fun G0 G a w h0 hl hF hd hW=>by simpa[aZ]using h G0 G a w h0 hl hF hd hW
theorem aa.skip(h:aa Γ nt n0 k Q env H):aa Γ nt n0 (.code .skip::k) Q env H :=
 fun G0 G a w h0 hl hF hd hW=>by simp only[aZ];exact wp_skip (h G0 G a w h0 hl hF hd hW)
theorem aa.exit{id:Nat}{k':List It}(hu:unwind id k=some k')(h:aa Γ nt n0 k' Q env H):aa Γ nt n0 (.code (.exit id)::k) Q env H :=
 fun G0 G a w h0 hl hF hd hW=>by simp only[aZ];refine wp_exit ?_;rw[jU hu];exact h G0 G a w h0 hl hF hd hW
theorem aa.bC{id:Nat}{k':List It}(h:aa Γ nt n0 k' Q env H)(hu:unwind id k=some k':=by rfl):aa Γ nt n0 (.code (.exit id)::k) Q env H:=aa.exit hu h
theorem aa.region{id:Nat}{all:Array Oper}(l:List Oper)(hl:all=l.toArray)(h:aa Γ nt n0 (.ops all l::k) Q env H):aa Γ nt n0 (.code (.region id all false)::k) Q env H :=
 fun G0 G a w h0 hln hF hd hW=>by
  subst hl;have:=h G0 G a w h0 hln hF hd hW;simp only[aZ]at this ⊢;exact wp_region_lit this
theorem aa.nil{all:Array Oper}(h:aa Γ nt n0 k Q env H):aa Γ nt n0 (.ops all []::k) Q env H :=
 fun G0 G a w h0 hl hF hd hW=>by simp only[aZ];exact wpList_nil (h G0 G a w h0 hl hF hd hW)
theorem aa.done(h:Q .normal env H):aa Γ nt n0 [] Q env H :=
 fun G0 G a w h0 hl hF hd hW=>⟨G,env,H,h0,hl,hF,hd,hW,h⟩
theorem aa.ret(h:Q .ret env H):aa Γ nt n0 (.code .ret::k) Q env H :=
 fun G0 G a w h0 hl hF hd hW=>by
  simp only[aZ];refine wp_ret ?_;rw[lm];exact⟨G,env,H,h0,hl,hF,hd,hW,h⟩
theorem xG{c:Operand}{x y:Code}{b:Bool}(hb:ev Γ env c = .d (.bool b))(h:aa Γ nt n0 (.code (if b then x else y)::k) Q env H):aa Γ nt n0 (.code (.cond c x y)::k) Q env H :=
 fun G0 G a w h0 hl hF hd hW=>by
  have h1:=bN hW hF c;rw[hb]at h1;have:=h G0 G a w h0 hl hF hd hW;simp only[aZ]at this ⊢;exact wp_cond h1.fT this
theorem aa.cond{c:Operand}{x y:Code}(b:Bool)(hb:ev Γ env c = .d (.bool b))(ht:b=true→aa Γ nt n0 (.code x::k) Q env H)(hf:b=false→aa Γ nt n0 (.code y::k) Q env H):
  aa Γ nt n0 (.code (.cond c x y)::k) Q env H :=
 xG hb (by cases b<;>simp_all)
theorem aa.Sv{c:Operand}{x y:Code}(hb:ev Γ env c = .d (.bool true))(ht:aa Γ nt n0 (.code x::k) Q env H):aa Γ nt n0 (.code (.cond c x y)::k) Q env H:=xG hb ht
theorem aa.aB{c:Operand}{x y:Code}(ht:aa Γ nt n0 (.code x::k) Q env H)(hb:ev Γ env c = .d (.bool true):=by rfl):aa Γ nt n0 (.code (.cond c x y)::k) Q env H:=aa.Sv hb ht
theorem aa.Sw{c:Operand}{x y:Code}(hb:ev Γ env c = .d (.bool false))(ht:aa Γ nt n0 (.code y::k) Q env H):aa Γ nt n0 (.code (.cond c x y)::k) Q env H:=xG hb ht
theorem aa.ak{c:Operand}{x y:Code}(ht:aa Γ nt n0 (.code y::k) Q env H)(hb:ev Γ env c = .d (.bool false):=by rfl):aa Γ nt n0 (.code (.cond c x y)::k) Q env H:=aa.Sw hb ht
theorem aa.KZ{c:Operand}{x y:Code}{p:Prop}[Decidable p](hb:ev Γ env c = .d (.bool (decide p)))(ht:p→aa Γ nt n0 (.code x::k) Q env H)(hf:¬p→aa Γ nt n0 (.code y::k) Q env H):
  aa Γ nt n0 (.code (.cond c x y)::k) Q env H :=
 aa.cond _ hb (fun h=>ht (of_decide_eq_true h)) (fun h=>hf (of_decide_eq_false h))
theorem aa.QB{c:Operand}{x y:Code}{p:Prop}{inst:Decidable p}(hb:ev Γ env c = .d (.bool (decide p)))(hp:p)(ht:aa Γ nt n0 (.code x::k) Q env H):aa Γ nt n0 (.code (.cond c x y)::k) Q env H :=
 aa.KZ hb (fun _=>ht) (fun h=>(h hp).elim)
theorem aa.ah{c:Operand}{x y:Code}{p:Prop}{inst:Decidable p}(ht:aa Γ nt n0 (.code x::k) Q env H)(hb:ev Γ env c = .d (.bool (decide p)):=by rfl)(hp:p:=by first|omega|rfl):aa Γ nt n0 (.code (.cond c x y)::k) Q env H:=aa.QB hb hp ht
theorem aa.QC{c:Operand}{x y:Code}{p:Prop}{inst:Decidable p}(hb:ev Γ env c = .d (.bool (decide p)))(hp:¬p)(ht:aa Γ nt n0 (.code y::k) Q env H):aa Γ nt n0 (.code (.cond c x y)::k) Q env H :=
 aa.KZ hb (fun h=>(hp h).elim) (fun _=>ht)
theorem aa.ae{c:Operand}{x y:Code}{p:Prop}{inst:Decidable p}(ht:aa Γ nt n0 (.code y::k) Q env H)(hb:ev Γ env c = .d (.bool (decide p)):=by rfl)(hp:¬p:=by omega):aa Γ nt n0 (.code (.cond c x y)::k) Q env H:=aa.QC hb hp ht
def je(env:Env):Env→Prop
 |[]=>True
 |(i,v)::r=>env.get i=v∧je env r
theorem je.get:∀{env':Env},je env env'→∀i,env'.get i = .top∨env'.get i=env.get i
 |[],_,i => .inl rfl
 |(j,v)::r,h,i=>by
  simp only[Env.get];cases hb:Nat.beq j i with
  |true=>have:=Nat.eq_of_beq_eq_true hb;subst this;exact .inr h.1.symm
  |false=>exact je.get h.2 i
theorem df.weak{G:aO}{tmps:Array Value}{env':Env}(hF:df G nt tmps env)(h:je env env'):df G nt tmps env' :=
 ⟨hF.size,fun i=>by
  rcases h.get i with e|e
  ·rw[e];exact .top _
  ·rw[e];exact hF.rel i⟩
theorem aa.weak{env':Env}(he:je env env')(h:aa Γ nt n0 k Q env' H):aa Γ nt n0 k Q env H :=
 fun G0 G a w h0 hl hF hd hW=>h G0 G a w h0 hl (hF.weak he) hd hW
theorem df.put{G:aO}{a:Act}(hF:df G nt a.tmps env){t:Nat}(ht:Nat.ble (t+1) nt=true){v:Value}{r:AV}(hv:bA G v r):df G nt (a.put (some t) v).tmps ((t,r)::env):=by
 have hlt:=Nat.le_of_ble_eq_true ht;refine⟨by simp[Act.put,hF.size],fun i=>?_⟩;simp only[Env.get,Act.put];cases hb:Nat.beq t i with
 |true =>
  have:=Nat.eq_of_beq_eq_true hb;subst this;have:t<a.tmps.size:=by rw[hF.size];omega
  simpa[this]using hv
 |false =>
  have hne:=Nat.ne_of_beq_eq_false hb;have:=hF.rel i;simpa[Array.getElem?_setIfInBounds,hne]using this
theorem df.up{G G':aO}{m:Nat}(hle:GLe m G G')(hl:∀id,m≤id→G.loc id=none∧∀n,G.fl id n=none){tmps:Array Value}(hF:df G nt tmps env):df G' nt tmps env :=
 ⟨hF.size,fun i=>(hF.rel i).mono hle ((hF.rel i).bnd hl)⟩
theorem ba{o:Oper}{f:Nat→Option Bool}(hg:o.guard=none):Region.wanted o f=true:=by simp[Region.wanted,hg]
theorem aa.q{all:Array Oper}{o:Oper}{l:List Oper}(nn:Bool){t:Nat}{c:Prop}{v:AV}(hg:o.guard=none)(hd:o.dst=some t)(ht:Nat.ble (t+1) nt=true)
  (hq:qop Γ nn o.op env H=some (c,v)) (hc:c) (h:aa Γ nt n0 (.ops all l::k) Q ((t,v)::env) H):aa Γ nt n0 (.ops all (o::l)::k) Q env H :=
 fun G0 G a w h0 hl hF hdf hW=>by
  obtain⟨u,hu,hr⟩:=pU hW hF hq hc;have hF':=hF.put ht hu;have hn:=h G0 G (a.put (some t) u) w h0 hl hF' (by simp[Act.put,hdf]) hW;simp only[aZ]at hn ⊢;unfold wpList;rw[if_pos (ba hg)];refine .inl ?_;unfold Oper.wp;rw[hr w (Below.refl _ _)];simp only[Oper.upon,hd];exact hn
theorem aa.bh{all:Array Oper}{o:Oper}{l:List Oper}(nn:Bool){t:Nat}{c:Prop}{v:AV}(h:aa Γ nt n0 (.ops all l::k) Q ((t,v)::env) H)(hg:o.guard=none:=by rfl)(hd:o.dst=some t:=by rfl)(ht:Nat.ble (t+1) nt=true:=by rfl)(hq:qop Γ nn o.op env H=some (c,v):=by rfl)(hc:c:=by first|exact True.intro|omega|(simp only[tn,Int.reduceToNat];omega)):aa Γ nt n0 (.ops all (o::l)::k) Q env H:=aa.q nn hg hd ht hq hc h
theorem aa.q'b{all:Array Oper}{o:Oper}{l:List Oper}(nn:Bool){t:Nat}{c:Prop}{v:AV}(h:aa Γ nt n0 (.ops all l::k) Q ((t,v)::env) H)(hg:o.guard=none:=by rfl)(hd:o.dst=some t:=by rfl)(ht:Nat.ble (t+1) nt=true:=by rfl)(hq:qop Γ nn o.op env H=some (c,v):=by rfl)(hc:c:=by first|exact True.intro|omega|(simp only[tn,Int.reduceToNat];omega)|(rw[hln];omega)):aa Γ nt n0 (.ops all (o::l)::k) Q env H:=aa.q nn hg hd ht hq hc h
theorem aa.q'c{all:Array Oper}{o:Oper}{l:List Oper}(nn:Bool){t:Nat}{c:Prop}{v:AV}(h:aa Γ nt n0 (.ops all l::k) Q ((t,v)::env) H)(hg:o.guard=none:=by rfl)(hd:o.dst=some t:=by rfl)(ht:Nat.ble (t+1) nt=true:=by rfl)(hq:qop Γ nn o.op env H=some (c,v):=by rfl)(hc:c:=by first|exact True.intro|omega|(simp only[tn,Int.reduceToNat];omega)|(exact⟨by omega,hl1⟩)|(exact⟨by omega,hl2⟩)|(simp only[IntKind.bits];omega)):aa Γ nt n0 (.ops all (o::l)::k) Q env H:=aa.q nn hg hd ht hq hc h
theorem aa.q'd{all:Array Oper}{o:Oper}{l:List Oper}(nn:Bool){t:Nat}{c:Prop}{v:AV}(h:aa Γ nt n0 (.ops all l::k) Q ((t,v)::env) H)(hg:o.guard=none:=by rfl)(hd:o.dst=some t:=by rfl)(ht:Nat.ble (t+1) nt=true:=by rfl)(hq:qop Γ nn o.op env H=some (c,v):=by rfl)(hc:c:=by first|exact True.intro|omega|(simp only[tn,Int.reduceToNat];omega)|(rw[hn];omega)):aa Γ nt n0 (.ops all (o::l)::k) Q env H:=aa.q nn hg hd ht hq hc h
theorem aa.q'e{all:Array Oper}{o:Oper}{l:List Oper}(nn:Bool){t:Nat}{c:Prop}{v:AV}(h:aa Γ nt n0 (.ops all l::k) Q ((t,v)::env) H)(hg:o.guard=none:=by rfl)(hd:o.dst=some t:=by rfl)(ht:Nat.ble (t+1) nt=true:=by rfl)(hq:qop Γ nn o.op env H=some (c,v):=by rfl)(hc:c:=by first|exact True.intro|omega|(simp only[tn,Int.reduceToNat];omega)|(rw[hl];omega)):aa Γ nt n0 (.ops all (o::l)::k) Q env H:=aa.q nn hg hd ht hq hc h
theorem aa.q'f{all:Array Oper}{o:Oper}{l:List Oper}(nn:Bool){t:Nat}{c:Prop}{v:AV}(h:aa Γ nt n0 (.ops all l::k) Q ((t,v)::env) H)(hg:o.guard=none:=by rfl)(hd:o.dst=some t:=by rfl)(ht:Nat.ble (t+1) nt=true:=by rfl)(hq:qop Γ nn o.op env H=some (c,v):=by rfl)(hc:c:=by first|exact True.intro|omega|(simp only[tn,Int.reduceToNat];omega)|(simp only[fC,List.length_cons,List.length_nil];omega)):aa Γ nt n0 (.ops all (o::l)::k) Q env H:=aa.q nn hg hd ht hq hc h
theorem aa.q'g{all:Array Oper}{o:Oper}{l:List Oper}(nn:Bool){t:Nat}{c:Prop}{v:AV}(h:aa Γ nt n0 (.ops all l::k) Q ((t,v)::env) H)(hg:o.guard=none:=by rfl)(hd:o.dst=some t:=by rfl)(ht:Nat.ble (t+1) nt=true:=by rfl)(hq:qop Γ nn o.op env H=some (c,v):=by rfl)(hc:c:=by first|exact True.intro|omega|(simp only[tn,Int.reduceToNat];omega)|(refine⟨?_,hgl⟩;omega)|(simp only[IntKind.bits];omega)):aa Γ nt n0 (.ops all (o::l)::k) Q env H:=aa.q nn hg hd ht hq hc h
theorem aa.q'h{all:Array Oper}{o:Oper}{l:List Oper}(nn:Bool){t:Nat}{c:Prop}{v:AV}(h:aa Γ nt n0 (.ops all l::k) Q ((t,v)::env) H)(hg:o.guard=none:=by rfl)(hd:o.dst=some t:=by rfl)(ht:Nat.ble (t+1) nt=true:=by rfl)(hq:qop Γ nn o.op env H=some (c,v):=by rfl)(hc:c:=by first|exact True.intro|omega|(simp only[tn,Int.reduceToNat];omega)|(simp only[IntKind.bits];omega)|(exact OG v hv _)):aa Γ nt n0 (.ops all (o::l)::k) Q env H:=aa.q nn hg hd ht hq hc h
theorem aa.q'i{all:Array Oper}{o:Oper}{l:List Oper}(nn:Bool){t:Nat}{c:Prop}{v:AV}(h:aa Γ nt n0 (.ops all l::k) Q ((t,v)::env) H)(hg:o.guard=none:=by rfl)(hd:o.dst=some t:=by rfl)(ht:Nat.ble (t+1) nt=true:=by rfl)(hq:qop Γ nn o.op env H=some (c,v):=by rfl)(hc:c:=by first|exact True.intro|omega|(simp only[tn,Int.reduceToNat];omega)|(refine⟨?_,?_⟩<;>omega)):aa Γ nt n0 (.ops all (o::l)::k) Q env H:=aa.q nn hg hd ht hq hc h
theorem aa.q'j{all:Array Oper}{o:Oper}{l:List Oper}(nn:Bool){t:Nat}{c:Prop}{v:AV}(h:aa Γ nt n0 (.ops all l::k) Q ((t,v)::env) H)(hg:o.guard=none:=by rfl)(hd:o.dst=some t:=by rfl)(ht:Nat.ble (t+1) nt=true:=by rfl)(hq:qop Γ nn o.op env H=some (c,v):=by rfl)(hc:c:=by first|exact True.intro|omega|(simp only[tn,Int.reduceToNat];omega)|(rw[hm];omega)):aa Γ nt n0 (.ops all (o::l)::k) Q env H:=aa.q nn hg hd ht hq hc h
theorem aa.q'k{all:Array Oper}{o:Oper}{l:List Oper}(nn:Bool){t:Nat}{c:Prop}{v:AV}(h:aa Γ nt n0 (.ops all l::k) Q ((t,v)::env) H)(hg:o.guard=none:=by rfl)(hd:o.dst=some t:=by rfl)(ht:Nat.ble (t+1) nt=true:=by rfl)(hq:qop Γ nn o.op env H=some (c,v):=by rfl)(hc:c:=by first|exact True.intro|omega|(simp only[tn,Int.reduceToNat];omega)|(rw[el,em];omega)):aa Γ nt n0 (.ops all (o::l)::k) Q env H:=aa.q nn hg hd ht hq hc h
theorem aa.q'l{all:Array Oper}{o:Oper}{l:List Oper}(nn:Bool){t:Nat}{c:Prop}{v:AV}(h:aa Γ nt n0 (.ops all l::k) Q ((t,v)::env) H)(hg:o.guard=none:=by rfl)(hd:o.dst=some t:=by rfl)(ht:Nat.ble (t+1) nt=true:=by rfl)(hq:qop Γ nn o.op env H=some (c,v):=by rfl)(hc:c:=by first|exact True.intro|omega|(simp only[tn,Int.reduceToNat];omega)|(rw[el];omega)|(rw[em];omega)):aa Γ nt n0 (.ops all (o::l)::k) Q env H:=aa.q nn hg hd ht hq hc h
theorem aa.q'm{all:Array Oper}{o:Oper}{l:List Oper}(nn:Bool){t:Nat}{c:Prop}{v:AV}(h:aa Γ nt n0 (.ops all l::k) Q ((t,v)::env) H)(hg:o.guard=none:=by rfl)(hd:o.dst=some t:=by rfl)(ht:Nat.ble (t+1) nt=true:=by rfl)(hq:qop Γ nn o.op env H=some (c,v):=by rfl)(hc:c:=by first|exact True.intro|omega|(simp only[tn,Int.reduceToNat];omega)|(rw[el];omega)):aa Γ nt n0 (.ops all (o::l)::k) Q env H:=aa.q nn hg hd ht hq hc h
end
end
section
open Go Go.RowKit
mutual
def AV.ren(ρ:List Nat):AV→AV
 | .ptr id off => .ptr (ρ.getD id 0) off
 | .eptr id n sz i off => .eptr (ρ.getD id 0) n sz i off
 | .own sz es id => .own sz es (ρ.getD id 0)
 | .ms id n => .ms (ρ.getD id 0) n
 | .ag cs => .ag (AV.jy ρ cs)
 | .cH cs => .cH (AV.jy ρ cs)
 | .fn f as bs => .fn f (AV.jy ρ as) (AV.jy ρ bs)
 | .mp id => .mp (ρ.getD id 0)
 | .it id => .it (ρ.getD id 0)
 | .d x => .d x
 | .top => .top
def AV.jy(ρ:List Nat):List AV→List AV
 |[]=>[]
 |a::r=>AV.ren ρ a::AV.jy ρ r
end
theorem dV(ρ:List Nat):∀l,AV.jy ρ l=l.map (AV.ren ρ)
 |[]=>by simp[AV.jy]
 |a::r=>by simp[AV.jy,dV ρ r]
theorem vL(ρ:List Nat)(a:AV):(AV.ren ρ a).one=a.one:=by cases a<;>simp[AV.ren,AV.one]
def aN.ren(ρ:List Nat):aN→aN
 | .cells cs => .cells (AV.jy ρ cs)
 |o=>o
theorem bA.ren{G G':aO}{ρ:List Nat}(himm:dR G.imm G'.imm)(hloc:∀i b,G.loc i=some b→G'.loc (ρ.getD i 0)=some b)
  (hfl:∀i n v,G.fl i n=some v→G'.fl (ρ.getD i 0) n=some v) {v:Value} {a:AV} (h:bA G v a):bA G' v (a.ren ρ):=by
 have getm:∀{l:List AV} {i:Nat} {c:AV},(l.map (AV.ren ρ))[i]?=some c→∃c',l[i]?=some c'∧c=AV.ren ρ c':=fun {l i c} h=>by
  rw[List.getElem?_map]at h;cases hl:l[i]? with
  |none=>simp[hl]at h
  |some c'=>simp[hl]at h;exact⟨c',rfl,h.symm⟩
 induction h with
 |d v x h=>simp only[AV.ren];exact .d v x (h.mono himm)
 |ptr b id off h=>simp only[AV.ren];exact .ptr b _ off (hloc id b h)
 |eptr b cap id n sz i off h=>simp only[AV.ren];exact .eptr b cap _ n sz i off (hfl id n _ h)
 |own v sz es id h hd=>simp only[AV.ren];exact .own v sz es _ (hfl id _ _ h) (hd.mono himm)
 |ms v id n h h1=>simp only[AV.ren];exact .ms v _ n (hfl id _ _ h) h1
 |ag vs cs hl hone h ih =>
  simp only[AV.ren,dV];refine .ag vs _ (by simpa using hl) (fun c hc=>?_) fun i c hc=>?_
  ·obtain⟨c',h1,rfl⟩:=List.mem_map.1 hc;rw[vL];exact hone c' h1
  ·obtain⟨c',h1,rfl⟩:=getm hc;exact ih i c' h1
 |cH vs cs hl h ih =>
  simp only[AV.ren,dV];refine .cH vs _ (by simpa using hl) fun i c hc=>?_
  obtain⟨c',h1,rfl⟩:=getm hc;exact ih i c' h1
 |fn f vs ws as bs hv hw h h' ih ih' =>
  simp only[AV.ren,dV];refine .fn f vs ws _ _ (by simpa using hv) (by simpa using hw) (fun i c hc=>?_) fun i c hc=>?_
  ·obtain⟨c',h1,rfl⟩:=getm hc;exact ih i c' h1
  ·obtain⟨c',h1,rfl⟩:=getm hc;exact ih' i c' h1
 |mp b id h=>simp only[AV.ren];exact .mp b _ (hloc id b h)
 |it b id h=>simp only[AV.ren];exact .it b _ (hloc id b h)
 |top v=>simp only[AV.ren];exact .top v
theorem bA.wE{G G':aO}{ρ:List Nat}(himm:dR G.imm G'.imm)(hloc:∀i b,G.loc (ρ.getD i 0)=some b→G'.loc i=some b)
  (hfl:∀i n v,G.fl (ρ.getD i 0) n=some v→G'.fl i n=some v):∀(a:AV) (v:Value),bA G v (a.ren ρ)→bA G' v a
 | .d x,v,h=>by simp only[AV.ren]at h;cases h with|d _ _ h=>exact .d _ _ (h.mono himm)
 | .ptr id off,v,h=>by simp only[AV.ren]at h;cases h with|ptr b _ _ h=>exact .ptr b _ _ (hloc _ _ h)
 | .eptr id n sz i off,v,h=>by simp only[AV.ren]at h;cases h with|eptr b cap _ _ _ _ _ h=>exact .eptr b cap _ _ _ _ _ (hfl _ _ _ h)
 | .own sz es id,v,h=>by simp only[AV.ren]at h;cases h with|own _ _ _ _ h hd=>exact .own _ _ _ _ (hfl _ _ _ h) (hd.mono himm)
 | .ms id n,v,h=>by simp only[AV.ren]at h;cases h with|ms _ _ _ h h1=>exact .ms _ _ _ (hfl _ _ _ h) h1
 | .ag cs, v, h => by
  simp only[AV.ren,dV]at h;cases h with
  | ag vs _ hl hone h =>
   exact .ag vs _ (by simpa using hl) (fun c hc=>by have:=hone _ (List.mem_map_of_mem hc);rwa [vL]at this) fun i c hc =>
    have:=List.mem_of_getElem? hc
    bA.wE himm hloc hfl c _ (h i _ (by rw[List.getElem?_map,hc];rfl))
 | .cH cs, v, h => by
  simp only[AV.ren,dV]at h;cases h with
  | cH vs _ hl h =>
   exact .cH vs _ (by simpa using hl) fun i c hc =>
    have:=List.mem_of_getElem? hc
    bA.wE himm hloc hfl c _ (h i _ (by rw[List.getElem?_map,hc];rfl))
 | .fn f as bs, v, h => by
  simp only[AV.ren,dV]at h;cases h with
  | fn _ vs ws _ _ h1 h2 h3 h4 =>
   exact .fn f vs ws _ _ (by simpa using h1) (by simpa using h2)
    (fun i c hc =>
     have:=List.mem_of_getElem? hc
     bA.wE himm hloc hfl c _ (h3 i _ (by rw[List.getElem?_map,hc];rfl)))
    (fun i c hc =>
     have:=List.mem_of_getElem? hc
     bA.wE himm hloc hfl c _ (h4 i _ (by rw[List.getElem?_map,hc];rfl)))
 | .mp id,v,h=>by simp only[AV.ren]at h;cases h with|mp b _ h=>exact .mp b _ (hloc _ _ h)
 | .it id,v,h=>by simp only[AV.ren]at h;cases h with|it b _ h=>exact .it b _ (hloc _ _ h)
 | .top,v,h => .top v
termination_by a=>SizeOf.sizeOf a
decreasing_by
 all_goals simp_wf
 all_goals (have:=List.sizeOf_lt_of_mem ‹_∈_›;omega)
def Dq(Γ:Ctx)(env:Env)(H:List aN):List ResultVar→Option (List AV)
 |[]=>some []
 | .tmp t::r=>match (env.get t).frc,Dq Γ env H r with|some (_,v),some l=>some (v::l)|_,_=>none
 | .cell p t :: r => match Dq Γ env H r, aY Γ.T t, env.get p with
  |some l,some ti, .ptr id off=>match hget H id with
   |some (.cells cs)=>match vu ti cs off with|some v=>some (v::l)|none=>none
   |_=>none
  |_,_,_=>none
def gy(Γ:Ctx)(env:Env)(H:List aN)(l:List ResultVar):Option AV :=
 match Dq Γ env H l with
 |some [v]=>some v
 |some l=>some (.cH l)
 |none=>none
section
variable {Γ:Ctx}{nt n0:Nat}{k:List It}{Q:Post}{env:Env}{H:List aN}{G:aO}{w:World}
theorem Nr{t p:Nat}{ti:TI}{v:AV}{id off:Nat}{cs:List AV}(ht:aY Γ.T t=some ti)(hW:bM Γ.gl G H w){u:Value}(hu:bA G u (.ptr id off))
  (hh:hget H id=some (.cells cs)) (hv:vu ti cs off=some v):∃b r,u = .pointer (some ⟨b,off,none⟩)∧bA G r v∧(loadVar t ⟨b,off,none⟩).run Γ.P w = .ok r w:=by
 obtain⟨f⟩:=Γ.ty ht;rw[dA]at hh;obtain⟨b,cur,t',h1,h2,h3,h4,h5,h6⟩:=hW.obj id _ hh;cases hu with
 |ptr b' _ _ hb =>
  rw[h1]at hb;cases hb;obtain⟨r,hr1,hr2⟩:=tF (G:=G) (b:=b) (o:=0) (us:=cur.toList) f h4 h5 hv;have:=hr2 w (fun i hi=>by rw[cell_of_row w b (0+i) cur t' _ h2];simp[gv,List.getD,show i<cur.size by omega]);refine⟨b,r,rfl,hr1,?_⟩;simpa[Instr.loadAt,Instr.sureAddr]using this
def rv(tmps:Array Value):ResultVar→Sem Value
 | .tmp t=>pure (tmps.getD t undef)
 | .cell a t=>do loadVar t (←asAddr (tmps.getD a undef))
theorem Bn{tmps:Array Value}(hW:bM Γ.gl G H w)(hF:df G nt tmps env):∀{l:List ResultVar} {vs:List AV},Dq Γ env H l=some vs →
  ∃us:List Value,us.length=vs.length∧(∀(i:Nat) (c:AV),vs[i]?=some c→bA G (gv us i) c)∧(l.mapM (rv tmps)).run Γ.P w = .ok us w
 |[],vs,h=>by
  simp[Dq]at h;subst h;exact⟨[],rfl,fun i c h=>by simp at h,by simp⟩
 | .tmp t :: r, vs, h => by
  simp only[Dq,jP]at h;split at h
  ·rename_i c v l hv hl;cases hv;cases h;obtain⟨us,h1,h2,h3⟩:=Bn hW hF hl;refine⟨tmps.getD t undef::us,by simp[h1],fun i c hc=>?_,?_⟩
   ·cases i with
    |zero=>simp at hc;subst hc;simpa[gv]using hF.rel t
    |succ i=>simpa[gv]using h2 i c (by simpa using hc)
   ·simp only[List.mapM_cons,rv,Sem.run_bind,Sem.run_pure,Result.andThen_ok];rw[h3];rfl
  ·cases h
 | .cell p t :: r, vs, h => by
  simp only[Dq]at h;split at h
  ·rename_i l ti id off hl ht hp;split at h
   ·rename_i cs hh;split at h
    ·rename_i v hv;cases h;obtain⟨us,h1,h2,h3⟩:=Bn hW hF hl;have hpr:=hF.rel p;rw[hp]at hpr;obtain⟨b,x,hu,hx,hrun⟩:=Nr (p:=p) ht hW hpr hh hv;refine⟨x::us,by simp[h1],fun i c hc=>?_,?_⟩
     ·cases i with
      |zero=>simp at hc;subst hc;simpa[gv]using hx
      |succ i=>simpa[gv]using h2 i c (by simpa using hc)
     ·have hr:(rv tmps (.cell p t)).run Γ.P w = .ok x w:=by simp only[rv,hu,asAddr,Sem.run_bind,Sem.run_pure,Result.andThen_ok,hrun]
      simp only[List.mapM_cons,Sem.run_bind,hr,Result.andThen_ok];rw[h3];rfl
    ·cases h
   ·cases h
  ·cases h
theorem DZ(fn:Func)(tmps:Array Value):results fn tmps=(do let vs ←fn.results.mapM (rv tmps);pure (if h:vs.size=1 then vs[0] else .tuple vs)):=by
 unfold results;congr 1
theorem Dp{fn:Func}{tmps:Array Value}{r:AV}(hW:bM Γ.gl G H w)(hF:df G nt tmps env)(h:gy Γ env H fn.results.toList=some r):
  ∃u,bA G u r∧(results fn tmps).run Γ.P w = .ok u w:=by
 unfold gy at h;have key:∀vs,Dq Γ env H fn.results.toList=some vs→∃us:List Value,us.length=vs.length∧(∀(i:Nat) (c:AV),vs[i]?=some c→bA G (gv us i) c) ∧
   (results fn tmps).run Γ.P w = .ok (if h:us.toArray.size=1 then us.toArray[0] else .tuple us.toArray) w:=fun vs hvs=>by
  obtain⟨us,h1,h2,h3⟩:=Bn hW hF hvs;refine⟨us,h1,h2,?_⟩;rw[DZ,Array.mapM_eq_mapM_toList];simp only[Sem.run_bind,Sem.run_map,h3,Result.andThen_ok,Sem.run_pure]
 split at h
 ·rename_i v hv;cases h;obtain⟨us,h1,h2,h3⟩:=key _ hv;cases us with
  |nil=>simp at h1
  |cons u us =>
   have:us=[]:=List.eq_nil_of_length_eq_zero (by simpa using h1);subst this;refine⟨u,by simpa[gv]using h2 0 _ rfl,by simpa using h3⟩
 ·rename_i l hne hl;cases h;obtain⟨us,h1,h2,h3⟩:=key _ hl;refine⟨.tuple us.toArray, .cH _ _ (by simpa using h1) (by simpa using h2),?_⟩;rw[h3,dif_neg];intro e;have e':l.length=1:=by simpa[h1]using e
  obtain⟨v,rfl⟩:=List.length_eq_one_iff.1 e';exact hne v rfl
 ·cases h
def cJ(a b:AV):Prop:=∀G v,bA G v a→bA G v b
theorem cJ.refl(a:AV):cJ a a:=fun _ _ h=>h
def bW(a b:D):Prop:=∀imm v,DRel imm v a→DRel imm v b
theorem bW.refl(a:D):bW a a:=fun _ _ h=>h
theorem bW.aU(sz:Nat):bW .aU (.sl sz []):=fun imm v h=>by cases h;exact .sl0 _ _ _
theorem cJ.own(sz:Nat)(es:List D)(id:Nat):cJ (.own sz es id) (.d (.sl sz es)):=fun G v h => .d _ _ (Ag h)
theorem cJ.d{a b:D}(h:bW a b):cJ (.d a) (.d b):=fun G v hv=>by cases hv with|d _ _ hd=>exact .d _ _ (h _ _ hd)
def zH:List AV→List AV→Prop
 |[],[]=>True
 |a::r,b::s=>cJ a b∧zH r s
 |_,_=>False
theorem zH.get:∀{l m:List AV},zH l m→l.length=m.length∧∀(i:Nat) (c:AV),m[i]?=some c→∃c',l[i]?=some c'∧cJ c' c
 |[],[],_=>⟨rfl,fun i c h=>by simp at h⟩
 |a::r,b::s,h=>by
  obtain⟨h1,h2⟩:=zH.get h.2;refine⟨by simp[h1],fun i c hc=>?_⟩;cases i with
  |zero=>simp at hc;subst hc;exact⟨a,rfl,h.1⟩
  |succ i=>simpa using h2 i c (by simpa using hc)
 |[],_::_,h=>h.elim
 |_::_,[],h=>h.elim
theorem cJ.cH{l m:List AV}(h:zH l m):cJ (.cH l) (.cH m):=fun G v hv=>by
 cases hv with
 | cH vs _ hl hg =>
  obtain⟨h1,h2⟩:=h.get;exact .cH _ _ (by omega) fun i c hc=>by
   obtain⟨c',e1,e2⟩:=h2 i c hc;exact e2 _ _ (hg i c' e1)
def aN.bnd(m:Nat):aN→Bool
 | .cells cs=>AV.dF m cs
 |_=>true
def aO.cut(G:aO)(m:Nat):aO :=
 { G with loc:=fun id=>if id<m then G.loc id else none,fl:=fun id n=>if id<m then G.fl id n else none }
theorem Ba(G:aO)(m:Nat):GLe m G (G.cut m) :=
 ⟨rfl,rfl,rfl, .refl _,fun id b h hb=>by simp[aO.cut,h,hb],fun id n v h hb=>by simp[aO.cut,h,hb]⟩
theorem GLe.cut{n:Nat}{G0 G:aO}{m:Nat}(h:GLe n G0 G)(hm:n≤m):GLe n G0 (G.cut m) :=
 h.trans ((Ba G m).weaken hm)
theorem bM.cut(hW:bM Γ.gl G H w){m:Nat}(hm:m≤H.length)(hb:∀o∈H.take m,o.bnd m=true):bM Γ.gl (G.cut m) (H.take m) w:=by
 have get:∀{id o},(H.take m)[id]?=some o→id<m∧H[id]?=some o:=fun {id o} h=>by
  rw[List.getElem?_take]at h;split at h
  ·exact⟨‹_›,h⟩
  ·cases h
 have hob:∀{id o b},id<m→OB (G.cut m) id o b→OB G id o b:=fun {id o b} hi h=>by
  cases o<;>simp_all [OB,aO.cut]
 refine⟨hW.os,hW.tape,hW.output,hW.size,hW.old,hW.imm,?_,?_,?_,?_,hW.glob⟩
 ·intro id o ho;obtain⟨hi,ho'⟩:=get ho;have hbo:=hb o (List.mem_of_getElem? ho);have h:=hW.obj id o ho';have l1:∀b,G.loc id=some b→(G.cut m).loc id=some b:=fun b h=>by simp[aO.cut,hi,h]
  have l2:∀n,(G.cut m).fl id n=G.fl id n:=fun n=>by simp[aO.cut,hi]
  cases o with
  |cells cs =>
   obtain⟨b,cur,t,h1,h2,h3,h4,h5,h6⟩:=h;exact⟨b,cur,t,l1 b h1,h2,h3,h4,fun i c hc=>(h5 i c hc).mono (Ba G m) (eY hbo hc),h6⟩
  |front e sz n =>
   obtain⟨v,xs,h1,h2,h3,h4⟩:=h;exact⟨v,xs,by rw[l2];exact h1,h2,h3,fun k hk=>by rw[l2];exact h4 k hk⟩
  |arr e sz es =>
   obtain⟨v,xs,h1,h2,h3,h3',h4,h5,h6⟩:=h;exact⟨v,xs,by rw[l2];exact h1,h2,h3,h3',h4,h5,fun k hk=>by rw[l2];exact h6 k hk⟩
  |map es =>
   obtain⟨b,ents,clock,h1,h2⟩:=h;exact⟨b,ents,clock,l1 b h1,h2⟩
  |siter s pos =>
   obtain⟨b,h1,h2⟩:=h;exact⟨b,l1 b h1,h2⟩
  |gone=>trivial
 ·intro id o b ho hb;obtain⟨hi,ho'⟩:=get ho;exact hW.own id o b ho' (hob hi hb)
 ·intro id o id' o' b h1 h2 b1 b2;obtain⟨hi,h1'⟩:=get h1;obtain⟨hi',h2'⟩:=get h2;exact hW.inj id o id' o' b h1' h2' (hob hi b1) (hob hi' b2)
 ·intro id hid;have:m≤id:=by simpa[Nat.min_eq_left hm]using hid
  simp[aO.cut,Nat.not_lt.2 this]
def Fin(Γ:Ctx)(fn:Func)(n0:Nat)(R:AV→List aN→Prop)(env:Env)(H:List aN):Prop :=
 ∃r r' m,gy Γ env H fn.results.toList=some r∧cJ r r'∧n0≤m∧m≤H.length∧r'.bnd m=true∧(∀o∈H.take m,o.bnd m=true)∧R r' (H.take m)
def qY(Γ:Ctx)(fn:Func)(n0:Nat)(R:AV→List aN→Prop):Post
 | .normal,env,H=>Fin Γ fn n0 R env H
 | .ret,env,H=>Fin Γ fn n0 R env H
 |_,_,_=>False
def qx:Nat→List AV→Env
 |_,[]=>[]
 |i,a::r=>(i,a)::qx (i+1) r
theorem xV:∀(l:List AV) (j i:Nat),(qx j l).get i=if j≤i then (l[i-j]?).getD .top else .top
 |[],j,i=>by simp[qx,Env.get]
 | a :: r, j, i => by
  simp only[qx,Env.get];cases hb:Nat.beq j i with
  |true=>have:=Nat.eq_of_beq_eq_true hb;subst this;simp
  | false =>
   have hne:=Nat.ne_of_beq_eq_false hb;rw[cond_false,xV r (j+1) i];by_cases h:j≤i
   ·have h':j+1≤i:=by omega
    rw[if_pos h,if_pos h'];have:i-j=(i-(j+1))+1:=by omega
    rw[this,List.getElem?_cons_succ]
   ·rw[if_neg h,if_neg (by omega)]
theorem ACalls.enter{f:FuncId}{fn:Func}{body:Code}{n:Nat}{args:List AV}{R:AV→List aN→Prop}(hf:Γ.P.funcs[f]?=some fn)(hb:fn.body=some body)(hn:fn.ntmps=n)
  (hname:qp Γ.P f=true) (hle:Nat.ble args.length n=true) (h:aa Γ n H.length [.code body] (qY Γ fn H.length R) (qx 0 args) H):ACalls Γ f args H R:=by
 refine⟨hname,fun G w vs hW hA=>?_⟩;refine calls_of_wp hf hb ?_;have hle':=Nat.le_of_ble_eq_true hle;have hF:df G n (vs++Array.replicate (fn.ntmps-vs.size) undef) (qx 0 args):=by
  refine⟨by simp[hn,hA.1];omega,fun i=>?_⟩;rw[xV];simp only[Nat.zero_le,if_true,Nat.sub_zero];cases hi:args[i]? with
  |none=>exact .top _
  |some c =>
   have hlt:=aI hi;have:=hA.2 i c hi;have hvs:i<vs.size:=by rw[hA.1];exact hlt
   simpa[gv,List.getD,Array.getElem?_append_left hvs]using this
 have:=h G G { tmps:=vs++Array.replicate (fn.ntmps-vs.size) undef,defers:=[] } w (GLe.refl _ _) (Nat.le_refl _) hF rfl hW;simp only[aZ]at this;refine wp_mono this fun e a w' hq=>?_
 obtain⟨G',env',H',hle1,hlen,hF',hd,hW',hQ⟩:=hq;have fin:Fin Γ fn H.length R env' H'→a.defers=[]∧∃v,(results fn a.tmps).run Γ.P w' = .ok v w' ∧
   ∃v' r H'' G'',Ending.returned v = .returned v'∧R r H''∧H.length≤H''.length∧GLe H.length G G''∧bA G'' v' r∧bM Γ.gl G'' H'' w':=fun hfin=>by
  obtain⟨r,r',m,h1,h2,h3,h4,h5,h6,h7⟩:=hfin;obtain⟨u,u1,u2⟩:=Dp hW' hF' h1;exact⟨hd,u,u2,u,r',H'.take m,G'.cut m,rfl,h7,by simp;omega,hle1.cut h3,(h2 _ _ u1).mono (Ba G' m) h5,hW'.cut h4 h6⟩
 cases e with
 |normal=>exact fin hQ
 |ret=>exact fin hQ
 |_=>exact hQ.elim
def fK(Γ:Ctx)(nt n0:Nat)(I:Nat→Env→List aN→Prop)(n:Nat)(k:List It)(Q:Post):Post
 | .normal,env,H=>∃env' m,m<n∧je env env'∧I m env' H
 | .exit id,env,H=>∃k',unwind id k=some k'∧aa Γ nt n0 k' Q env H
 | .ret,env,H=>Q .ret env H
 |_,_,_=>False
theorem aa.loop{body:Code}(I:Nat→Env→List aN→Prop)(m:Nat)(h0:I m env H)(round:∀n env H,I n env H→aa Γ nt n0 [.code body] (fK Γ nt n0 I n k Q) env H):
  aa Γ nt n0 (.code (.loop body)::k) Q env H :=
 fun G0 G a w h1 hl hF hd hW=>by
  simp only[aZ];refine wp_loop_ghost (fun n a w=>Conc Γ nt n0 G0 (fun _=>I n) .normal a w) m ⟨G,env,H,h1,hl,hF,hd,hW,h0⟩ ?_;rintro n a w ⟨G,env,H,h1,hl,hF,hd,hW,hI⟩;have:=round n env H hI G0 G a w h1 hl hF hd hW;simp only[aZ]at this;refine wp_mono this ?_;rintro e a' w' ⟨G',env',H',h1',hl',hF',hd',hW',hQ⟩;cases e with
  |normal =>
   obtain⟨env'',m',hlt,hle,hI'⟩:=hQ;exact⟨m',hlt,G',env'',H',h1',hl',hF'.weak hle,hd',hW',hI'⟩
  |exit id =>
   obtain⟨k',hu,hgo⟩:=hQ;show aZ _ _ _ _ _ _;rw[jU hu];exact hgo G0 G' a' w' h1' hl' hF' hd' hW'
  |ret =>
   show aZ _ _ _ _ _ _;rw[lm];exact⟨G',env',H',h1',hl',hF',hd',hW',hQ⟩
  |_=>exact hQ.elim
theorem gp{P:Program}{Q:Exit→Act→World→Prop}{id:Nat}:∀{k:List It},unwind id k=none→∀a w,aZ P Q k (.exit id) a w=Q (.exit id) a w
 |[],_,_,_=>rfl
 | .blk j :: k, h, a, w => by
  simp only[unwind]at h;cases hb:Nat.beq id j with
  |true=>rw[hb]at h;cases h
  |false =>
   rw[hb]at h;have:=Nat.ne_of_beq_eq_false hb;simp only[aZ,if_neg this];exact gp h a w
 | .code c::k,h,a,w=>by simp only[aZ];exact gp (by simpa[unwind]using h) a w
 | .ops _ _::k,h,a,w=>by simp only[aZ];exact gp (by simpa[unwind]using h) a w
 | .qops _ _::k,h,a,w=>by simp only[aZ];exact gp (by simpa[unwind]using h) a w
 | .sops _ _::k,h,a,w=>by simp only[aZ];exact gp (by simpa[unwind]using h) a w
 | .lp _::k,h,a,w=>by simp only[aZ];exact gp (by simpa[unwind]using h) a w
theorem aa.out{id:Nat}(hu:unwind id k=none)(h:Q (.exit id) env H):aa Γ nt n0 (.code (.exit id)::k) Q env H :=
 fun G0 G a w h0 hl hF hd hW=>by
  simp only[aZ];refine wp_exit ?_;rw[gp hu];exact⟨G,env,H,h0,hl,hF,hd,hW,h⟩
theorem aa.drop(m:Nat){env':Env}(h1:n0≤m)(h2:m≤H.length)(hb:∀o∈H.take m,o.bnd m=true)(he:je env env')(hbe:∀i,(env'.get i).bnd m=true)
  (h:aa Γ nt n0 k Q env' (H.take m)):aa Γ nt n0 k Q env H :=
 fun G0 G a w h0 hl hF hd hW =>
  h G0 (G.cut m) a w (h0.cut h1) (by simp;omega) ⟨hF.size,fun i=>((hF.weak he).rel i).mono (Ba G m) (hbe i)⟩ hd (hW.cut h2 hb)
end
end
section
open Go Go.RowKit
def dZ(m:Nat):List aN→Bool
 |[]=>true
 |o::r=>o.bnd m&&dZ m r
theorem gb{m:Nat}:∀{l:List aN},dZ m l=true→∀o∈l,o.bnd m=true
 |[],_,o,h=>by simp at h
 |x::r,hb,o,h=>by
  simp only[dZ,Bool.and_eq_true]at hb;rcases List.mem_cons.1 h with rfl|h
  ·exact hb.1
  ·exact gb hb.2 o h
section
variable {Γ:Ctx}{nt n0:Nat}{k:List It}{Q:Post}{env:Env}{H:List aN}{G:aO}{w:World}
theorem Fin.mk'{fn:Func}{R:AV→List aN→Prop}{r r':AV}(hr:gy Γ env H fn.results.toList=some r)(hw:cJ r r')(hl:Nat.ble n0 H.length=true)(hb:r'.bnd n0=true)
  (ho:dZ n0 (H.take n0)=true) (h:R r' (H.take n0)):Fin Γ fn n0 R env H :=
 ⟨r,r',n0,hr,hw,Nat.le_refl _,Nat.le_of_ble_eq_true hl,hb,gb ho,h⟩
theorem aa.nP{fn:Func}{R:AV→List aN→Prop}{r:AV}(r':AV)(hr:gy Γ env H fn.results.toList=some r)(hw:cJ r r')(hl:Nat.ble n0 H.length=true)(hb:r'.bnd n0=true)
  (ho:dZ n0 (H.take n0)=true) (h:R r' (H.take n0)):aa Γ nt n0 (.code .ret::k) (qY Γ fn n0 R) env H:=aa.ret (Fin.mk' hr hw hl hb ho h)
theorem aa.Jm{fn:Func}{R:AV→List aN→Prop}{r:AV}(hr:gy Γ env H fn.results.toList=some r)(hl:Nat.ble n0 H.length=true)(hb:r.bnd n0=true)
  (ho:dZ n0 (H.take n0)=true) (h:R r (H.take n0)):aa Γ nt n0 (.code .ret::k) (qY Γ fn n0 R) env H:=aa.nP r hr (cJ.refl _) hl hb ho h
theorem aa.aA{fn:Func}{R:AV→List aN→Prop}{r:AV}(h:R r (H.take n0))(hr:gy Γ env H fn.results.toList=some r:=by rfl)(hl:Nat.ble n0 H.length=true:=by rfl)(hb:r.bnd n0=true:=by rfl)(ho:dZ n0 (H.take n0)=true:=by rfl):aa Γ nt n0 (.code .ret::k) (qY Γ fn n0 R) env H:=aa.Jm hr hl hb ho h
theorem aa.Qs{fn:Func}{R:AV→List aN→Prop}{r:AV}(hr:gy Γ env H fn.results.toList=some r)(hl:Nat.ble n0 H.length=true)(hb:r.bnd n0=true)
  (ho:dZ n0 (H.take n0)=true) (h:R r (H.take n0)):aa Γ nt n0 [] (qY Γ fn n0 R) env H:=aa.done (Fin.mk' hr (cJ.refl _) hl hb ho h)
theorem aa.lL{fn:Func}{R:AV→List aN→Prop}{r:AV}(h:R r (H.take n0))(hr:gy Γ env H fn.results.toList=some r:=by rfl)(hl:Nat.ble n0 H.length=true:=by rfl)(hb:r.bnd n0=true:=by rfl)(ho:dZ n0 (H.take n0)=true:=by rfl):aa Γ nt n0 [] (qY Γ fn n0 R) env H:=aa.Qs hr hl hb ho h
def eU(Γ:Ctx)(env:Env)(op:Op):Option (FuncId×List AV) :=
 match op with
 | .call c => match c.callee with
  | .value f=>match ev Γ env f with
   | .fn (.func g) first cap=>some (g,first++avs Γ env c.args++cap)
   |_=>none
  |_=>none
 |_=>none
theorem jZ.append{vs ws:Array Value}{as bs:List AV}(h:jZ G vs as)(h':jZ G ws bs):jZ G (vs++ws) (as++bs):=by
 refine⟨by simp[h.1,h'.1],fun i c hc=>?_⟩;rw[List.getElem?_append]at hc;split at hc
 ·rename_i hi;have:=h.2 i c hc;have hlt:i<vs.size:=by rw[h.1];exact hi
  have e:(vs++ws).toList[i]?=vs.toList[i]?:=by rw[Array.toList_append,List.getElem?_append_left (by simpa using hlt)]
  simp only[gv,List.getD,e]at this ⊢;exact this
 ·rename_i hi;have:=h'.2 _ c hc;have e1:vs.size=as.length:=h.1;have hge:¬i<vs.size:=by omega
  have e:(vs++ws).toList[i]?=ws.toList[i-as.length]?:=by rw[Array.toList_append,List.getElem?_append_right (by simpa using hge),Array.length_toList,e1]
  simp only[gv,List.getD,e]at this ⊢;exact this
theorem ll{a:Act}{o:Oper}{f:FuncId}{args:List AV}(hW:bM Γ.gl G H w)(hF:df G nt a.tmps env)(h:eU Γ env o.op=some (f,args))(hc:qp Γ.P f=true):
  ∃vs,jZ G vs args∧∀w',(execOp a.eval o).run Γ.P w' = .ok (.enter f vs) w':=by
 unfold eU at h;split at h
 ·rename_i c hop;split at h
  ·rename_i fo hcal;split at h
   ·rename_i g first cap he
    cases h;have hx:=bN hW hF fo;rw[he]at hx;generalize hv:a.eval fo=fv at hx;cases hx with
    | fn _ vs ws _ _ h1 h2 h3 h4 =>
     have hA:=qw (Γ:=Γ) hW hF c.args;refine⟨vs++c.args.map a.eval++ws,jZ.append (jZ.append ⟨h1,h3⟩ ⟨hA.1,hA.2⟩) ⟨h2,h4⟩,fun w'=>?_⟩;unfold qp at hc;split at hc
     ·rename_i fn hfn;simp only[Bool.and_eq_true,Bool.not_eq_true',Option.isSome_iff_exists]at hc;obtain⟨⟨b,hb⟩,hn⟩:=hc;unfold execOp;simp only[hop,resolve,hcal,hv,Deferred.ofValue,Sem.run_bind,Sem.run_pure,Result.andThen_ok,invoke,callFunc,run_program,hfn,hn,Bool.false_eq_true,if_false,hb,Option.isNone_some]
     ·cases hc
   ·cases h
  ·cases h
 ·cases h
def idx(ρ:List Nat)(id:Nat):Option Nat:=ρ.findIdx? (fun j=>j==id)
theorem lF{ρ:List Nat}{id i:Nat}(h:idx ρ id=some i):ρ[i]?=some id:=by
 unfold idx at h;rw[List.findIdx?_eq_some_iff_getElem]at h;obtain⟨hi,h1,h2⟩:=h;rw[List.getElem?_eq_getElem hi];simpa using h1
theorem uC:∀{ρ:List Nat},ρ.Nodup→∀{i j id:Nat},ρ[i]?=some id→ρ[j]?=some id→i=j
 |[],_,i,j,id,h,_=>by simp at h
 | x :: ρ, hn, i, j, id, h, h' => by
  obtain⟨h1,h2⟩:=List.nodup_cons.1 hn;cases i with
  |zero =>
   cases j with
   |zero=>rfl
   |succ j=>simp at h h';subst h;exact (h1 (List.mem_of_getElem? h')).elim
  |succ i =>
   cases j with
   |zero=>simp at h h';subst h';exact (h1 (List.mem_of_getElem? h)).elim
   |succ j=>exact congrArg (·+1) (uC h2 (id:=id) (by simpa using h) (by simpa using h'))
theorem FW{ρ:List Nat}(hn:ρ.Nodup){id i:Nat}(h:ρ[i]?=some id):idx ρ id=some i:=by
 unfold idx;rw[List.findIdx?_eq_some_iff_getElem];have hi:=aI h;rw[List.getElem?_eq_getElem hi]at h;cases h;refine⟨hi,by simp,fun j hj hji=>?_⟩;simp only[beq_iff_eq]at hji ⊢;have:=uC hn (i:=j) (j:=i) (id:=ρ[i]) (by rw[List.getElem?_eq_getElem (by omega),hji]) (by rw[List.getElem?_eq_getElem hi]);omega
def mi(ρ:List Nat)(H:List aN):Option (List aN) :=
 match ρ with
 |[]=>some []
 |i::r=>match hget H i,mi r H with
  |some o,some l=>some (o::l)
  |_,_=>none
theorem qJ:∀{ρ:List Nat} {l:List aN},mi ρ H=some l→l.length=ρ.length∧∀(i id:Nat),ρ[i]?=some id→∃o,l[i]?=some o∧H[id]?=some o
 |[],l,h=>by simp[mi]at h;subst h;simp
 | j :: r, l, h => by
  simp only[mi]at h;split at h
  ·rename_i o l' h1 h2;cases h;obtain⟨e1,e2⟩:=qJ h2;rw[dA]at h1;refine⟨by simp[e1],fun i id hi=>?_⟩;cases i with
   |zero=>simp at hi;subst hi;exact⟨o,rfl,h1⟩
   |succ i=>simpa using e2 i id (by simpa using hi)
  ·cases h
def iw:List Nat→List aN→List aN→List aN
 |i::ρ,o::Hc,H=>iw ρ Hc (H.set i o)
 |[],rest,H=>H++rest
 |_,[],H=>H
theorem ik:∀{ρ:List Nat} {Hc H:List aN},ρ.length≤Hc.length→(iw ρ Hc H).length=H.length+(Hc.length-ρ.length)
 |[],Hc,H,_=>by simp[iw]
 |i::ρ,[],H,h=>by simp at h
 |i::ρ,o::Hc,H,h=>by
  rw[iw,ik (by simpa using h)];simp
theorem rK:∀{ρ:List Nat} {Hc H:List aN},ρ.length≤Hc.length→∀id,id∉ρ→id<H.length→(iw ρ Hc H)[id]?=H[id]?
 |[],Hc,H,_,id,_,hl=>by simp[iw,List.getElem?_append,hl]
 |i::ρ,[],H,h,_,_,_=>by simp at h
 |i::ρ,o::Hc,H,h,id,hn,hl=>by
  simp only[List.mem_cons,not_or]at hn;rw[iw,rK (by simpa using h) id hn.2 (by simpa using hl),List.getElem?_set_ne (fun e=>hn.1 e.symm)]
theorem Fs:∀{ρ:List Nat} {Hc H:List aN},ρ.Nodup→ρ.length≤Hc.length→(∀id∈ρ,id<H.length)→∀i id:Nat,ρ[i]?=some id→(iw ρ Hc H)[id]?=Hc[i]?
 |[],Hc,H,_,_,_,i,id,h=>by simp at h
 |j::ρ,[],H,_,h,_,_,_,_=>by simp at h
 | j :: ρ, o :: Hc, H, hn, h, hl, i, id, hi => by
  rw[iw];cases i with
  |zero =>
   simp at hi;subst hi;rw[rK (by simpa using h) _ (List.nodup_cons.1 hn).1 (by simpa using hl _ List.mem_cons_self)];simp[hl _ List.mem_cons_self]
  |succ i =>
   exact Fs (List.nodup_cons.1 hn).2 (by simpa using h) (fun id hid=>by simpa using hl id (List.mem_cons_of_mem _ hid)) i id (by simpa using hi)
theorem BX:∀{ρ:List Nat} {Hc H:List aN},ρ.length≤Hc.length→∀j,(iw ρ Hc H)[H.length+j]?=Hc[ρ.length+j]?
 |[],Hc,H,_,j=>by rw[iw,List.getElem?_append_right (by omega)];simp
 |i::ρ,[],H,h,_=>by simp at h
 |i::ρ,o::Hc,H,h,j=>by
  rw[iw];have:=BX (H:=H.set i o) (show ρ.length≤Hc.length by simpa using h) j;rw[List.length_set]at this;rw[this];have e:(i::ρ).length+j=(ρ.length+j)+1:=by simp;omega
  rw[e,List.getElem?_cons_succ]
def names(ρ:List Nat)(h n:Nat):List Nat:=ρ++List.range' h (n-ρ.length)
def aO.callee(G:aO)(w:World)(H:List aN)(ρ:List Nat):aO :=
  { base:=w,imm0:=G.imm,own0:=fun b=>∃id o,id∈ρ∧H[id]?=some o∧OB G id o b,imm:=G.imm
    loc:=fun i=>(ρ[i]?).bind G.loc,fl:=fun i n=>(ρ[i]?).bind fun id=>G.fl id n }
theorem gP{ρ:List Nat}{i id:Nat}(h:ρ[i]?=some id):(G.callee w H ρ).loc i=G.loc id:=by simp[aO.callee,h]
theorem iI{ρ:List Nat}{i id n:Nat}(h:ρ[i]?=some id):(G.callee w H ρ).fl i n=G.fl id n:=by simp[aO.callee,h]
theorem bA.rE{G G':aO}{ρ:List Nat}(himm:dR G.imm G'.imm)(hloc:∀i id,ρ[i]?=some id→G'.loc i=G.loc id)
  (hfl:∀i id n,ρ[i]?=some id→G'.fl i n=G.fl id n) (a:AV) (v:Value) (hb:a.bnd ρ.length=true) (h:bA G v (a.ren ρ)):bA G' v a:=by
 have get:∀{i},i<ρ.length→ρ[i]?=some (ρ.getD i 0):=fun {i} h=>by simp[List.getD,List.getElem?_eq_getElem h]
 let G1:aO:={ G' with loc:=fun i=>G.loc (ρ.getD i 0),fl:=fun i n=>G.fl (ρ.getD i 0) n }
 have h1:bA G1 v a:=bA.wE (G:=G) (G':=G1) (ρ:=ρ) himm (fun i b h=>h) (fun i n v h=>h) a v h;exact h1.mono' (G:=G1) (G':=G') (k:=ρ.length) (dR.refl G'.imm) (fun id b hid hb=>by rw[hloc id _ (get hid)];exact hb) (fun id n v hid hb=>by rw[hfl id _ n (get hid)];exact hb) hb
theorem mJ.wE{ρ:List Nat}{i id:Nat}(hi:ρ[i]?=some id){o:aN}(hb:o.bnd ρ.length=true)(h:mJ G w id (o.ren ρ)):mJ (G.callee w H ρ) w i o:=by
 have l1:∀b,G.loc id=some b→(G.callee w H ρ).loc i=some b:=fun b hb=>by rw[gP hi];exact hb
 have l2:∀n,(G.callee w H ρ).fl i n=G.fl id n:=fun n=>iI hi
 cases o with
 |cells cs =>
  obtain⟨b,cur,t,h1,h2,h3,h4,h5,h6⟩:=h;rw[dV]at h3 h4 h5;refine⟨b,cur,t,l1 b h1,h2,by simpa using h3,fun c hc=>by have:=h4 _ (List.mem_map_of_mem hc);rwa [vL]at this,fun j c hc=>?_,h6⟩;exact bA.rE (G:=G) (G':=G.callee w H ρ) (dR.refl G.imm) (fun i id h=>gP h) (fun i id n h=>iI h) c _ (eY hb hc) (h5 j _ (by rw[List.getElem?_map,hc];rfl))
 |front e sz n =>
  obtain⟨v,xs,h1,h2,h3,h4⟩:=h;exact⟨v,xs,by rw[l2];exact h1,h2,h3,fun k hk=>by rw[l2];exact h4 k hk⟩
 |arr e sz es =>
  obtain⟨v,xs,h1,h2,h3,h3',h4,h5,h6⟩:=h;exact⟨v,xs,by rw[l2];exact h1,h2,h3,h3',h4,h5,fun k hk=>by rw[l2];exact h6 k hk⟩
 |map es =>
  obtain⟨b,ents,clock,h1,h2⟩:=h;exact⟨b,ents,clock,l1 b h1,h2⟩
 |siter s pos =>
  obtain⟨b,h1,h2⟩:=h;exact⟨b,l1 b h1,h2⟩
 |gone=>trivial
theorem uX{ρ:List Nat}{i id:Nat}(hi:ρ[i]?=some id)(o:aN)(b:Nat):OB (G.callee w H ρ) i o b↔OB G id (o.ren ρ) b:=by
 cases o<;>simp[OB,aN.ren,gP hi,iI hi]
theorem bM.callee(hW:bM Γ.gl G H w){ρ:List Nat}{Hc:List aN}(hn:ρ.Nodup)(hp:mi ρ H=some (Hc.map (aN.ren ρ)))(hb:dZ ρ.length Hc=true):
  bM Γ.gl (G.callee w H ρ) Hc w:=by
 obtain⟨p1,p2⟩:=qJ hp;have p1':Hc.length=ρ.length:=by simpa using p1
 have get:∀{i:Nat} {o:aN},Hc[i]?=some o→∃id:Nat,ρ[i]?=some id∧H[id]?=some (o.ren ρ):=fun {i o} h=>by
  have hlt:i<ρ.length:=by rw[←p1'];exact aI h
  obtain⟨o',h1,h2⟩:=p2 i _ (List.getElem?_eq_getElem hlt);rw[List.getElem?_map,h]at h1;cases h1;exact⟨_,List.getElem?_eq_getElem hlt,h2⟩
 refine⟨rfl,rfl,rfl,Nat.le_refl _,fun b _ _=>⟨rfl,rfl⟩,hW.imm,?_,?_,?_,?_,hW.glob⟩
 ·intro i o ho;obtain⟨id,h1,h2⟩:=get ho;exact mJ.wE h1 (gb hb o (List.mem_of_getElem? ho)) (hW.obj id _ h2)
 ·intro i o b ho hob;obtain⟨id,h1,h2⟩:=get ho;exact .inl ⟨id,_,List.mem_of_getElem? h1,h2,(uX h1 o b).1 hob⟩
 ·intro i o i' o' b ho ho' hob hob';obtain⟨id,h1,h2⟩:=get ho;obtain⟨id',h1',h2'⟩:=get ho';have:=hW.inj id _ id' _ b h2 h2' ((uX h1 o b).1 hob) ((uX h1' o' b).1 hob');subst this;exact uC hn h1 h1'
 ·intro i hi;have:ρ[i]?=none:=List.getElem?_eq_none (by omega);simp[aO.callee,this]
def aO.back(G Gc:aO)(ρ':List Nat):aO :=
  { G with imm:=Gc.imm
           loc:=fun id=>match idx ρ' id with|some i=>Gc.loc i|none=>G.loc id
           fl:=fun id n=>match idx ρ' id with|some i=>Gc.fl i n|none=>G.fl id n }
theorem Hh(ρ:List Nat)(h n i:Nat)(hn:ρ.length≤n):(names ρ h n)[i]?=if i<ρ.length then ρ[i]? else if i<n then some (h+(i-ρ.length)) else none:=by
 unfold names;by_cases hi:i<ρ.length
 ·rw[if_pos hi,List.getElem?_append_left hi]
 ·rw[if_neg hi,List.getElem?_append_right (by omega)];by_cases hi':i<n
  ·rw[if_pos hi',List.getElem?_eq_getElem (by simp;omega)];simp
  ·rw[if_neg hi',List.getElem?_eq_none (by simp;omega)]
theorem Ao(ρ:List Nat)(h n:Nat)(hn:ρ.length≤n):(names ρ h n).length=n:=by simp[names];omega
theorem Cw{ρ:List Nat}{h:Nat}(n:Nat)(hn:ρ.Nodup)(hl:∀id∈ρ,id<h):(names ρ h n).Nodup:=by
 unfold names;rw[List.nodup_append];refine⟨hn,List.nodup_range',fun x hx y hy e=>?_⟩;subst e;have:=hl x hx;simp[List.mem_range']at hy;omega
theorem mJ.Ru{Gc:aO}{ρ':List Nat}{i id:Nat}(himm:dR Gc.imm G.imm)(himm':∀b,G.imm b=Gc.imm b)(hloc:∀i b,Gc.loc i=some b→G.loc (ρ'.getD i 0)=some b)(hfl:∀i n v,Gc.fl i n=some v→G.fl (ρ'.getD i 0) n=some v)
  (hid:ρ'.getD i 0=id) (hfl':∀n,G.fl id n=Gc.fl i n) {o:aN} (h:mJ Gc w i o):mJ G w id (o.ren ρ'):=by
 have l1:∀b,Gc.loc i=some b→G.loc id=some b:=fun b hb=>by rw[←hid];exact hloc i b hb
 cases o with
 | cells cs =>
  obtain⟨b,cur,t,h1,h2,h3,h4,h5,h6⟩:=h;refine⟨b,cur,t,l1 b h1,h2,by rw[dV];simpa using h3,fun c hc=>?_,fun j c hc=>?_,by rw[himm'];exact h6⟩
  ·rw[dV]at hc;obtain⟨c',hc',rfl⟩:=List.mem_map.1 hc;rw[vL];exact h4 c' hc'
  ·rw[dV,List.getElem?_map]at hc;cases hq:cs[j]? with
   |none=>simp[hq]at hc
   |some c'=>simp[hq]at hc;subst hc;exact (h5 j c' hq).ren himm hloc hfl
 |front e sz n =>
  obtain⟨v,xs,h1,h2,h3,h4⟩:=h;exact⟨v,xs,by rw[hfl'];exact h1,h2,fun b hb=>by rw[himm'];exact h3 b hb,fun k hk=>by rw[hfl'];exact h4 k hk⟩
 |arr e sz es =>
  obtain⟨v,xs,h1,h2,h3,h3',h4,h5,h6⟩:=h;exact⟨v,xs,by rw[hfl'];exact h1,h2,h3,h3',fun i x j c hx hc=>(h4 i x j c hx hc).mono himm,fun b hb=>by rw[himm'];exact h5 b hb,fun k hk=>by rw[hfl'];exact h6 k hk⟩
 | map es =>
  obtain⟨b,ents,clock,h1,h2,h3,h4,h6,h7,h5⟩:=h;exact⟨b,ents,clock,l1 b h1,h2,by rw[himm'];exact h3,h4,h6,h7,fun i k v hi=>by
   obtain⟨en,e1,e2,e3⟩:=h5 i k v hi;exact⟨en,e1,e2.mono himm,e3.mono himm⟩⟩
 |siter s pos =>
  obtain⟨b,h1,h2,h3⟩:=h;exact⟨b,l1 b h1,h2,by rw[himm'];exact h3⟩
 |gone=>trivial
theorem bM.back{w':World}{Gc':aO}{ρ:List Nat}{Hc Hc':List aN}(hW:bM Γ.gl G H w)(hn:ρ.Nodup)(hlt:∀id∈ρ,id<H.length)(hlen:Hc.length=ρ.length)(hlen':Hc.length≤Hc'.length)
  (hle:GLe Hc.length (G.callee w H ρ) Gc') (hc:bM Γ.gl Gc' Hc' w') :
  GLe H.length G (G.back Gc' (names ρ H.length Hc'.length))∧bM Γ.gl (G.back Gc' (names ρ H.length Hc'.length)) (iw ρ (Hc'.map (aN.ren (names ρ H.length Hc'.length))) H) w' ∧
  dR Gc'.imm (G.back Gc' (names ρ H.length Hc'.length)).imm∧(∀i b,Gc'.loc i=some b→(G.back Gc' (names ρ H.length Hc'.length)).loc ((names ρ H.length Hc'.length).getD i 0)=some b) ∧
  (∀i n v,Gc'.fl i n=some v→(G.back Gc' (names ρ H.length Hc'.length)).fl ((names ρ H.length Hc'.length).getD i 0) n=some v):=by
 have hρn:ρ.length≤Hc'.length:=by omega
 generalize hρ':names ρ H.length Hc'.length=ρ';have ng:∀i,ρ'[i]?=if i<ρ.length then ρ[i]? else if i<Hc'.length then some (H.length+(i-ρ.length)) else none:=fun i=>by rw[←hρ'];exact Hh ρ H.length Hc'.length i hρn
 have nl:ρ'.length=Hc'.length:=by rw[←hρ'];exact Ao _ _ _ hρn
 have nd:ρ'.Nodup:=by rw[←hρ'];exact Cw _ hn hlt
 have at_:∀{i id:Nat},ρ'[i]?=some id→(G.back Gc' ρ').loc id=Gc'.loc i∧∀n,(G.back Gc' ρ').fl id n=Gc'.fl i n:=fun {i id} h=>by
  have:=FW nd h;simp[aO.back,this]
 have old:∀{i id:Nat},ρ'[i]?=some id→id<H.length→ρ[i]?=some id:=fun {i id} h hl=>by
  rw[ng]at h;split at h
  ·exact h
  ·split at h
   ·cases h;omega
   ·cases h
 have none_:∀{id:Nat},idx ρ' id=none→(∀i:Nat,ρ'[i]?≠some id):=fun {id} h i hi=>by rw[FW nd hi]at h;cases h
 have notin:∀{id:Nat},idx ρ' id=none→id∉ρ:=fun {id} h hm=>by
  obtain⟨i,hi⟩:=List.getElem?_of_mem hm;exact none_ h i (by rw[ng,if_pos (aI hi)];exact hi)
 have other:∀{id:Nat},idx ρ' id=none→(G.back Gc' ρ').loc id=G.loc id∧∀n,(G.back Gc' ρ').fl id n=G.fl id n:=fun {id} h=>by simp[aO.back,h]
 have himm:dR G.imm Gc'.imm:=hle.imm;have hGG:GLe H.length G (G.back Gc' ρ'):=by
  refine⟨rfl,rfl,rfl,himm,fun id b hid hb=>?_,fun id n v hid hb=>?_⟩
  ·cases hx:idx ρ' id with
   |none=>rw[(other hx).1];exact hb
   |some i =>
    have hi:=lF hx;have hi':=old hi hid;rw[(at_ hi).1];exact hle.loc i b (by rw[hlen];exact aI hi') (by rw[gP hi'];exact hb)
  ·cases hx:idx ρ' id with
   |none=>rw[(other hx).2];exact hb
   |some i =>
    have hi:=lF hx;have hi':=old hi hid;rw[(at_ hi).2];exact hle.fl i n v (by rw[hlen];exact aI hi') (by rw[iI hi'];exact hb)
 have lenOf:∀{i:Nat},i<Hc'.length→ρ'[i]?=some (ρ'.getD i 0):=fun {i} h=>by simp[List.getD,List.getElem?_eq_getElem (show i<ρ'.length by omega)]
 have hloc:∀i b,Gc'.loc i=some b→(G.back Gc' ρ').loc (ρ'.getD i 0)=some b:=fun i b h=>by
  have hi:i<Hc'.length:=by
   rcases Nat.lt_or_ge i Hc'.length with h'|h'
   ·exact h'
   ·rw[(hc.lim i h').1]at h;cases h
  rw[(at_ (lenOf hi)).1];exact h
 have hfl:∀i n v,Gc'.fl i n=some v→(G.back Gc' ρ').fl (ρ'.getD i 0) n=some v:=fun i n v h=>by
  have hi:i<Hc'.length:=by
   rcases Nat.lt_or_ge i Hc'.length with h'|h'
   ·exact h'
   ·rw[(hc.lim i h').2]at h;cases h
  rw[(at_ (lenOf hi)).2];exact h
 have b0:Gc'.base=w:=hle.base;have i0:Gc'.imm0=G.imm:=hle.imm0;have o0:Gc'.own0=fun b=>∃id o,id∈ρ∧H[id]?=some o∧OB G id o b:=hle.own0
 have same:∀b,b<w.heap.size→¬Gc'.own0 b→w'.heap[b]?=w.heap[b]?∧Gc'.imm b=G.imm b:=fun b hb hno=>by
  have:=hc.old b (by rw[b0];exact hb) hno;rw[b0,i0]at this;exact this
 have plen:(iw ρ (Hc'.map (aN.ren ρ')) H).length=H.length+(Hc'.length-ρ.length):=by rw[ik (by simpa using hρn)];simp
 have pin:∀{i id:Nat},ρ'[i]?=some id→(iw ρ (Hc'.map (aN.ren ρ')) H)[id]?=(Hc'[i]?).map (aN.ren ρ'):=fun {i id} h=>by
  rw[ng]at h;split at h
  ·rw[Fs hn (by simpa using hρn) hlt i id h,List.getElem?_map]
  ·split at h
   ·cases h;rw[BX (by simpa using hρn),List.getElem?_map];congr 2;omega
   ·cases h
 have pout:∀{id:Nat} {o:aN},idx ρ' id=none→(iw ρ (Hc'.map (aN.ren ρ')) H)[id]?=some o→H[id]?=some o:=fun {id o} hx ho=>by
  have hl:=aI ho;rw[plen]at hl;have:id<H.length:=by
   rcases Nat.lt_or_ge id H.length with h|h
   ·exact h
   ·exact (none_ hx (ρ.length+(id-H.length)) (by rw[ng,if_neg (by omega),if_pos (by omega)];congr 1;omega)).elim
  rwa [rK (by simpa using hρn) id (notin hx) this]at ho
 have obin:∀{i id b:Nat} {o:aN},ρ'[i]?=some id→OB (G.back Gc' ρ') id (o.ren ρ') b→OB Gc' i o b:=fun {i id b o} hi hob=>by
  obtain⟨a1,a2⟩:=at_ hi;cases o<;>simp_all [OB,aN.ren]
 have obout:∀{id b:Nat} {o:aN},idx ρ' id=none→OB (G.back Gc' ρ') id o b→OB G id o b:=fun {id b o} hx hob=>by
  obtain⟨a1,a2⟩:=other hx;cases o<;>simp_all [OB]
 have keptO:∀{id b:Nat} {o:aN},idx ρ' id=none→H[id]?=some o→OB G id o b→b<w.heap.size∧¬Gc'.own0 b:=fun {id b o} hx ho hob=>by
  refine⟨(hW.obj id o ho).lt hob,fun h=>?_⟩;rw[o0]at h;obtain⟨id',o',hm,ho',hob'⟩:=h;have:=hW.inj id o id' o' b ho ho' hob hob';subst this;exact notin hx hm
 refine⟨hGG,⟨?_,?_,?_,?_,?_,hc.imm,?_,?_,?_,?_,fun g cs hg=>(hW.glob g cs hg).mono himm⟩,dR.refl _,hloc,hfl⟩
 ·rw[hc.os,b0];exact hW.os
 ·rw[hc.tape,b0];exact hW.tape
 ·rw[hc.output,b0];exact hW.output
 ·have:=hc.size;rw[b0]at this;exact Nat.le_trans hW.size this
 ·intro b hb hno;have hno':¬Gc'.own0 b:=fun h=>by
   rw[o0]at h;obtain⟨id,o,hm,ho,hob⟩:=h;rcases hW.own id o b ho hob with h|h
   ·exact hno h
   ·exact absurd hb (Nat.not_lt.2 h)
  obtain⟨s1,s2⟩:=same b (Nat.lt_of_lt_of_le hb hW.size) hno';obtain⟨t1,t2⟩:=hW.old b hb hno;exact⟨s1.trans t1,s2.trans t2⟩
 ·intro id o ho;cases hx:idx ρ' id with
  | some i =>
   have hi:=lF hx;rw[pin hi]at ho;cases hq:Hc'[i]? with
   |none=>simp[hq]at ho
   |some oc =>
    simp[hq]at ho;subst ho;have:ρ'.getD i 0=id:=by simp[List.getD,hi]
    exact mJ.Ru (G:=G.back Gc' ρ') (Gc:=Gc') (dR.refl Gc'.imm) (fun _=>rfl) hloc hfl this (at_ hi).2 (hc.obj i oc hq)
  |none =>
   have ho':=pout hx ho;refine mJ.keep hGG (aI ho') hW.lim (hW.obj id o ho') (fun b hob=>?_) (other hx).2;obtain⟨k1,k2⟩:=keptO hx ho' hob;exact same b k1 k2
 ·intro id o b ho hob;show G.own0 b∨G.base.heap.size≤b;cases hx:idx ρ' id with
  | some i =>
   have hi:=lF hx;rw[pin hi]at ho;cases hq:Hc'[i]? with
   |none=>simp[hq]at ho
   | some oc =>
    simp[hq]at ho;subst ho;rcases hc.own i oc b hq (obin hi hob)with h|h
    ·rw[o0]at h;obtain⟨id',o',hm,ho',hob'⟩:=h;exact hW.own id' o' b ho' hob'
    ·rw[b0]at h;exact .inr (Nat.le_trans hW.size h)
  |none=>exact hW.own id o b (pout hx ho) (obout hx hob)
 ·intro id o id' o' b ho ho' hob hob';have mixed:∀{id id':Nat} {o o':aN},idx ρ' id=none→(∃i,idx ρ' id'=some i)→(iw ρ (Hc'.map (aN.ren ρ')) H)[id]?=some o→(iw ρ (Hc'.map (aN.ren ρ')) H)[id']?=some o' →
    OB (G.back Gc' ρ') id o b→OB (G.back Gc' ρ') id' o' b→False:=fun {id id' o o'} hx hx' ho ho' hob hob'=>by
   obtain⟨i,hx'⟩:=hx';have hi:=lF hx';rw[pin hi]at ho';cases hq:Hc'[i]? with
   |none=>simp[hq]at ho'
   |some oc =>
    simp[hq]at ho';subst ho';obtain⟨k1,k2⟩:=keptO hx (pout hx ho) (obout hx hob);rcases hc.own i oc b hq (obin hi hob')with h|h
    ·exact k2 h
    ·rw[b0]at h;exact absurd k1 (Nat.not_lt.2 h)
  cases hx:idx ρ' id with
  | some i =>
   cases hx':idx ρ' id' with
   | some i' =>
    have hi:=lF hx;have hi':=lF hx';rw[pin hi]at ho;rw[pin hi']at ho';cases hq:Hc'[i]? with
    |none=>simp[hq]at ho
    | some oc =>
     cases hq':Hc'[i']? with
     |none=>simp[hq']at ho'
     |some oc' =>
      simp[hq]at ho;simp[hq']at ho';subst ho;subst ho';have:=hc.inj i oc i' oc' b hq hq' (obin hi hob) (obin hi' hob');subst this;rw[hi]at hi';cases hi';rfl
   |none=>exact (mixed hx' ⟨i,hx⟩ ho' ho hob' hob).elim
  |none =>
   cases hx':idx ρ' id' with
   |some i'=>exact (mixed hx ⟨i',hx'⟩ ho ho' hob hob').elim
   |none=>exact hW.inj id o id' o' b (pout hx ho) (pout hx' ho') (obout hx hob) (obout hx' hob')
 ·intro id hid;rw[plen]at hid;have hx:idx ρ' id=none:=by
   cases hx:idx ρ' id with
   |none=>rfl
   | some i =>
    have hi:=lF hx;rw[ng]at hi;split at hi
    ·have:=hlt id (List.mem_of_getElem? hi);omega
    ·split at hi
     ·cases hi;omega
     ·cases hi
  rw[(other hx).1];exact⟨(hW.lim id (by omega)).1,fun n=>by rw[(other hx).2];exact (hW.lim id (by omega)).2 n⟩
theorem aa.call{all:Array Oper}{o:Oper}{l:List Oper}{t f:Nat}{args cargs:List AV}{Hc:List aN}{R:AV→List aN→Prop}(ρ:List Nat)
  (hR:ACalls Γ f cargs Hc R) (hg:o.guard=none) (hd:o.dst=some t) (ht:Nat.ble (t+1) nt=true)
  (hcall:eU Γ env o.op=some (f,args)) (hargs:args=AV.jy ρ cargs) (hab:AV.dF ρ.length cargs=true) (hn:ρ.Nodup) (hp:mi ρ H=some (Hc.map (aN.ren ρ))) (hb:dZ ρ.length Hc=true)
  (h : ∀ r Hc', R r Hc' → Hc.length ≤ Hc'.length → ∃ r' H', r' = AV.ren (names ρ H.length Hc'.length) r ∧ H' = iw ρ (Hc'.map (aN.ren (names ρ H.length Hc'.length))) H ∧
   aa Γ nt n0 (.ops all l::k) Q ((t,r')::env) H'):aa Γ nt n0 (.ops all (o::l)::k) Q env H :=
 fun G0 G a w h0 hl hF hdf hW=>by
  obtain⟨vs,hA,hrun⟩:=ll hW hF hcall hR.1;obtain⟨p1,p2⟩:=qJ hp;have hlen:Hc.length=ρ.length:=by simpa using p1
  have hlt:∀id∈ρ,id<H.length:=fun id hm=>by
   obtain⟨i,hi⟩:=List.getElem?_of_mem hm;obtain⟨o,_,h2⟩:=p2 i id hi;exact aI h2
  have hWc:=hW.callee hn hp hb;have hAc:jZ (G.callee w H ρ) vs cargs:=by
   subst hargs;rw[dV]at hA;refine⟨by simpa using hA.1,fun i c hc=>?_⟩;exact bA.rE (G:=G) (G':=G.callee w H ρ) (dR.refl G.imm) (fun i id h=>gP h) (fun i id n h=>iI h) c _ (eY hab hc) (hA.2 i _ (by rw[List.getElem?_map,hc];rfl))
  have hcalls:=hR.2 _ w vs hWc hAc;simp only[aZ];unfold wpList;rw[if_pos (ba hg)];refine .inl ?_;unfold Oper.wp;rw[hrun w];refine hcalls.mono ?_;rintro e w' ⟨v,r,Hc',Gc',rfl,hRr,hlen',hle,hv,hWc'⟩;obtain⟨b1,b2,b3,b4,b5⟩:=hW.back hn hlt hlen hlen' hle hWc';obtain⟨r',H',rfl,rfl,hgo⟩:=h r Hc' hRr hlen';have hF':df (G.back Gc' (names ρ H.length Hc'.length)) nt (a.put (some t) v).tmps ((t,AV.ren (names ρ H.length Hc'.length) r)::env) :=
   (hF.up b1 hW.lim).put ht (hv.ren b3 b4 b5)
  have:=hgo G0 _ (a.put (some t) v) w' (h0.trans (b1.weaken hl)) (by rw[ik (by simp;omega)];omega) hF' (by simp[Act.put,hdf]) b2;simp only[aZ]at this;simp only[hd];exact this
end
end
end Go.Proofs.YtbpednchkndocaaGreatDoor.Av
