/- Rows that grow: append. append, as a step. Bytes made a string. Further quiet steps: any operation that is shown quiet; equality of arrays of whole numbers. An argument that reads as data is told by a data tree of its type. make of a slice that grows by append: a row of its own. Leaving loops: returns out of a loop's round, and out of the loop. -/
import Derived.Test.YtbpednchkndocaaGreatDoorPb
import Derived.ChangeKeysEq
import Derived.OpenShut
import Derived.ChangeArms
import Derived.Carry
import Derived.Laws.MakeOwn
set_option linter.unusedVariables false
set_option linter.unusedSimpArgs false
set_option maxRecDepth 100000
set_option maxHeartbeats 64000000
namespace Go.Proofs.YtbpednchkndocaaGreatDoor.Av
section
open Go Go.RowKit
structure Src(P:Program)(sz:Nat)(t2:TypeId)(x:Value)(w:World)(m:Nat)(news:List Value):Prop where
 dt:P.underlying t2=some .string∨∃e',P.underlying t2=some (.slice e')
 len:∀w',(Builtin.lenOf x).run P w' = .ok m w'
 c1:(Builtin.firstCells sz m x).run P w = .ok news.toArray w
 c2:(Builtin.firstCells sz m x).run P w.drew = .ok news.toArray w.drew
 hl:news.length=m*sz
 one:∀u∈news,u.oneCell'=true
inductive Apd(w:World)(e:TypeId)(sz:Nat)(z:Value)(v:Value)(n:Nat)(xs:List Value)(m:Nat)(news:List Value):Value→World→Prop
 | inPlace (g cap : Nat) (cur : Array Value) (hv : v = .slice (some ⟨g, 0, none⟩) n cap) (hg : w.heap[g]? = some (.cells cur e (0, 0))) (h1 : n + m ≤ cap) (h2 : cap ≤ maxLen) (h3 : cur.size = cap * sz) :
   Apd w e sz z v n xs m news (.slice (some ⟨g,0,none⟩) (n+m) cap) (w.setRow g (cur.toList.take (n*sz)++news++cur.toList.drop (n*sz+news.length)).toArray)
 | grown (c : Nat) (h0 : 0 < m) (h1 : n + m ≤ c) (h2 : c ≤ maxLen) :
   Apd w e sz z v n xs m news (.slice (some ⟨w.heap.size,0,none⟩) (n+m) c) (w.drew.alloc (.cells (xs.toArray++news.toArray++Builtin.zeroCells z.cells (c-(n+m))) e))
 |nil (hv:v = .slice none 0 0) (hn:n=0) (hm:m=0):Apd w e sz z v n xs m news v w
theorem Fe{P:Program}(w:World)(t t2 ty e:TypeId)(i:TypeInfo)(z:Value)(sz bytes:Nat)(ht:P.underlying t=some (.slice e))(hi:P.info? e=some i)(hz:i.zero=some z)
  (hsize:i.size=sz) (hby:i.bytes=bytes) (v:Value) (n:Nat) (xs:List Value) (hown:w.ownsRow 0 e sz v n xs) (x:Value) (m:Nat) (news:List Value) (hs:Src P sz t2 x w m news)
  (h63:n+m≤maxLen) (hbytes:(n+m)*bytes≤140737488355328) :
  ∃v' w',(Builtin.append_ #[t,t2] ty #[v,x]).run P w = .ok v' w'∧Apd w e sz z v n xs m news v' w':=by
 subst hsize;subst hby
 have hsmall:n+m≤9223372036854775807:=by simp only[maxLen]at h63;omega
 rcases hown.2 with⟨rfl,rfl⟩|⟨g,cap,cur,rfl,hbg,hg,hnc,hcm,hcs,htake⟩
 ·have hx:xs=[]:=List.eq_nil_of_length_eq_zero (by simpa using hown.1);subst hx;by_cases hm:m=0
  ·subst hm;refine⟨.slice none 0 0,w,?_, .nil rfl rfl rfl⟩;have hc:=hs.c1;rcases hs.dt with hd|⟨e',hd⟩<;>simp[Builtin.append_,run_underlying ht,run_underlying hd,sizeOf,typeInfo,hi,hs.len,hc]
  ·have h63':¬(9223372036854775807<(m:Int)):=by omega
   have h48':¬(281474976710656<Builtin.nextslicecap m 0*i.bytes):=by rw[nextslicecap_zero (by omega)];have hb:=hbytes;simp only[Nat.zero_add]at hb;omega
   have hc:=hs.c2;refine⟨_,_,?_, .grown (grownCap w (0+m) 0 e) (by omega) (grownCap_ge w _ _ e) (grownCap_le_maxLen w _ _ e h63)⟩;rcases hs.dt with hd|⟨e',hd⟩<;>simp[Builtin.append_,run_underlying ht,run_underlying hd,sizeOf,typeInfo,zeroValue,hi,hz,hs.len,hm,h63',h48',Question.forced,run_firstCells_none,hc,newRow,grownCap]
 ·by_cases hroom:n+m≤cap
  ·have hfit:n*i.size+news.length≤cur.size:=by rw[hs.hl,hcs,←Nat.add_mul];exact Nat.mul_le_mul_right _ hroom
   have hst:=run_storeCells_at P g (n*i.size) e news 0 cur w hg (by simpa using hfit) hs.one;simp only[Nat.add_zero]at hst;have hc:=hs.c1;refine⟨_,_,?_, .inPlace g cap cur rfl hg hroom hcm hcs⟩;rcases hs.dt with hd|⟨e',hd⟩<;>simp[Builtin.append_,run_underlying ht,run_underlying hd,sizeOf,typeInfo,hi,hs.len,hroom,hc,Addr.add_lit,hst]
  ·have holds:∀j u,xs[j]?=some u→w.cell? ((⟨g,0,none⟩:Addr).add j)=some u:=hown.cells (g:=g) rfl;have h63':¬(9223372036854775807<((n:Int)+(m:Int))):=by omega
   have h48':¬(281474976710656<Builtin.nextslicecap (n+m) cap*i.bytes):=by have:=growslice_fits (old:=cap) (need:=n+m) (bytes:=i.bytes) (by omega) hbytes;omega
   have hfo:=run_firstCells_some (P:=P) w.drew i.size n ⟨g,0,none⟩ n cap xs hown.1 (by simpa using holds);have hc:=hs.c2;refine⟨_,_,?_, .grown (grownCap w (n+m) cap e) (by omega) (grownCap_ge w _ _ e) (grownCap_le_maxLen w _ _ e h63)⟩;rcases hs.dt with hd|⟨e',hd⟩<;>(simp[Builtin.append_,run_underlying ht,run_underlying hd,sizeOf,typeInfo,zeroValue,hi,hz,hs.len,hroom,h63',h48',Question.forced,hc,hfo,newRow,grownCap];congr 2;apply Array.ext';simp[List.append_assoc])
theorem Apd.owns{w w':World}{e:TypeId}{sz:Nat}{z v v':Value}{n m:Nat}{xs news:List Value}(hzs:z.cells.size=sz)(hown:w.ownsRow 0 e sz v n xs)(hl:news.length=m*sz)
  (h:Apd w e sz z v n xs m news v' w'):w'.ownsRow 0 e sz v' (n+m) (xs++news):=by
 have hlen:(xs++news).length=(n+m)*sz:=by rw[List.length_append,hown.1,hl,Nat.add_mul]
 cases h with
 | inPlace g cap cur hv hg h1 h2 h3 =>
  refine⟨hlen, .inr ⟨g,cap,_,rfl,Nat.zero_le _,setRow_heap w g cur _ e _ hg,h1,h2,?_,?_⟩⟩
  ·have:n*sz+news.length≤cur.size:=by rw[hl,h3,←Nat.add_mul];exact Nat.mul_le_mul_right _ h1
   simp only[List.size_toArray,List.length_append,List.length_take,List.length_drop,Array.length_toList];omega
  ·have htake:cur.toList.take (n*sz)=xs:=by
    rcases hown.2 with⟨e1,_⟩|⟨g',cap',cur',e1,_,e2,_,_,_,e3⟩
    ·rw[hv]at e1;cases e1
    ·rw[hv]at e1;cases e1;rw[hg]at e2;cases e2;exact e3
   rw[htake,←hlen];exact List.take_left
 | grown c h0 h1 h2 =>
  refine⟨hlen, .inr ⟨w.heap.size,c,_,rfl,Nat.zero_le _,heap_alloc_new w.drew _,h1,h2,?_,?_⟩⟩
  ·simp only[Array.size_append,List.size_toArray,size_zeroCells,hzs,hown.1,hl,←Nat.add_mul];congr 1;omega
  ·simp only[Array.toList_append,List.append_assoc];rw[←List.append_assoc,←hlen];exact List.take_left
 |nil hv hn hm =>
  subst hm;have:news=[]:=List.eq_nil_of_length_eq_zero (by simpa using hl);subst this;simpa using hown
def aO.app(G:aO)(j k:Nat)(v':Value)(ys:List Value):aO :=
 { G with imm:=fun b=>if v'.ownBlock=some b then ys else G.imm b,fl:=fun i q=>if i=j∧q=k then some v' else G.fl i q }
theorem jE{gl:List (Nat×List D)}{G:aO}{H:List aN}{w:World}(hW:bM gl G H w){b:Nat}(hb:w.heap.size≤b):G.imm b=[]:=by
 cases hi:G.imm b with
 |nil=>rfl
 |cons v r =>
  have:=World.block_lt_of_cell? w _ (hW.imm b 0 (by rw[hi];simp));simp at this;omega
theorem bM.app{gl:List (Nat×List D)}{G:aO}{H:List aN}{w w':World}(hW:bM gl G H w){e:TypeId}{sz:Nat}{z v v':Value}{n m:Nat}{xs news:List Value}(hzs:z.cells.size=sz)
  (hown:w.ownsRow 0 e sz v n xs) (himm:∀b,v.ownBlock=some b→G.imm b=xs) (j:Nat) (hlast:∀k,n<k→G.fl j k=none)
  (hold:(H[j]?=some (.front e sz n)∧G.fl j n=some v)∨(j=H.length∧v = .slice none 0 0)) (hl:news.length=m*sz) (h:Apd w e sz z v n xs m news v' w')
  (H':List aN) (hlen:H.length≤H'.length) (hH1:H'[j]?=some (.front e sz (n+m))) (hH2:∀id,id≠j→H'[id]?=H[id]?) :
  GLe H.length G (G.app j (n+m) v' (xs++news))∧bM gl (G.app j (n+m) v' (xs++news)) H' w':=by
 have hown':=h.owns hzs hown hl;have hsame:m=0→v'=v:=fun hm=>by
  subst hm;cases h with
  |inPlace g cap cur hv=>rw[hv];rfl
  |grown c h0=>omega
  |nil=>rfl
 have hblk:∀b,v'.ownBlock=some b→v.ownBlock=some b∨b=w.heap.size:=fun b hb=>by
  cases h with
  |inPlace g cap cur hv=>left;rw[hv];simpa[Value.ownBlock]using hb
  |grown c=>right;simpa[Value.ownBlock,eq_comm]using hb
  |nil=>exact .inl hb
 have hIm:dR G.imm (G.app j (n+m) v' (xs++news)).imm:=fun b=>by
  simp only[aO.app];split
  ·rename_i hb;rcases hblk b hb with hb'|rfl
   ·rw[himm b hb'];exact List.prefix_append _ _
   ·rw[jE hW (Nat.le_refl _)];exact List.nil_prefix
  ·exact List.prefix_refl _
 have hle:GLe H.length G (G.app j (n+m) v' (xs++news)):=⟨rfl,rfl,rfl,hIm,fun _ _ _ h=>h,fun id k u hid hu=>by
  simp only[aO.app];split
  ·rename_i hq;obtain⟨rfl,rfl⟩:=hq;rcases Nat.eq_zero_or_pos m with hm|hm
   ·subst hm;rcases hold with⟨_,h2⟩|⟨h1,_⟩
    ·rw[hsame rfl];rw[Nat.add_zero]at hu;rw[h2]at hu;exact hu
    ·omega
   ·rw[hlast _ (by omega)]at hu;cases hu
  ·exact hu⟩
 have hOBold:∀b,v.ownBlock=some b→∃oj,H[j]?=some oj∧OB G j oj b:=fun b hb=>by
  rcases hold with⟨h1,h2⟩|⟨_,h2⟩
  ·exact⟨_,h1,v,h2,hb⟩
  ·rw[h2]at hb;cases hb
 have hheap:∀b,b<w.heap.size→v.ownBlock≠some b→w'.heap[b]?=w.heap[b]?:=fun b hb hne=>by
  cases h with
  |inPlace g cap cur hv=>exact setRow_other w g b _ (fun e=>hne (by rw[hv,e];rfl))
  |grown c=>exact heap_alloc_old w.drew _ hb
  |nil=>rfl
 have hcells:∀b,v'.ownBlock=some b→∀i,i<(xs++news).length→w'.cell? ⟨b,i,none⟩=some (gv (xs++news) i):=fun b hb i hi=>by
  have:=hown'.cells hb i (gv (xs++news) i) (jm hi)
  rwa [addr_add,Nat.zero_add]at this
 refine⟨hle,hW.step hle ?_ ?_ ?_ ?_ j (.front e sz (n+m)) H' hlen hH1 hH2 ?_ ?_ ?_ ?_ ?_ ?_⟩
 ·cases h<;>rfl
 ·cases h<;>rfl
 ·cases h<;>rfl
 ·cases h<;>simp
 ·intro id _ hne k;simp only[aO.app];rw[if_neg (fun h=>hne h.1)]
 ·intro b hb hnb;have hv:v.ownBlock≠some b:=fun hv=>by
   obtain⟨oj,o1,o2⟩:=hOBold b hv;exact hnb oj o1 o2
  refine⟨hheap b hb hv,?_⟩;simp only[aO.app];rw[if_neg (fun h'=>by rcases hblk b h' with h1|h1;exact hv h1;omega)]
 ·intro b hb i hi;simp only[aO.app]at hi ⊢;by_cases hv':v'.ownBlock=some b
  ·rw[if_pos hv']at hi ⊢;exact hcells b hv' i hi
  ·rw[if_neg hv']at hi ⊢;rcases hb with hb|⟨oj,o1,o2⟩
   ·rw[jE hW hb]at hi;simp at hi
   ·have hc:=hW.imm b i hi;have hlt:=World.block_lt_of_cell? w _ hc;by_cases hv:v.ownBlock=some b
    ·cases h with
     |inPlace g cap cur hv2=>rw[hv2]at hv;exact absurd hv hv'
     |grown c=>rw[World.cell?_of_block (heap_alloc_old w.drew _ hlt)];exact hc
     |nil=>exact hc
    ·rw[World.cell?_of_block (hheap b hlt hv)];exact hc
 ·exact⟨v',xs++news,by simp[aO.app],hown',fun b hb=>by simp[aO.app,hb],fun k hk=>by
   simp only[aO.app];rw[if_neg (by omega)];exact hlast k (by omega)⟩
 ·rintro b ⟨u,u1,u2⟩;simp only[aO.app,and_self,if_true,Option.some.injEq]at u1;subst u1;rcases hblk b u2 with h1|h1
  ·exact .inr (hOBold b h1)
  ·exact .inl (by omega)
 ·intro id hid;have hj:j<H'.length:=aI hH1;obtain⟨l1,l2⟩:=hW.lim id (by omega);refine⟨l1,fun q=>?_⟩;simp only[aO.app];rw[if_neg (by omega)];exact l2 q
end
section
open Go Go.RowKit
structure d9(imm:Nat→List Value)(sz:Nat)(es:List D)(xs:List Value):Prop where
 len:xs.length=es.length*sz
 hsz:∀e∈es,e.cells.length=sz
 one:∀e∈es,∀c∈e.cells,c.one=true
 rel:∀(i:Nat) (e:D) (j:Nat) (c:D),es[i]?=some e→e.cells[j]?=some c→DRel imm (gv xs (i*sz+j)) c
theorem d9.nil(imm:Nat→List Value)(sz:Nat):d9 imm sz [] []:=⟨by simp,by simp,by simp,by simp⟩
theorem d9.mono{imm imm':Nat→List Value}{sz:Nat}{es:List D}{xs:List Value}(h:d9 imm sz es xs)(hle:dR imm imm'):d9 imm' sz es xs :=
 ⟨h.len,h.hsz,h.one,fun i e j c h1 h2=>(h.rel i e j c h1 h2).mono hle⟩
theorem d9.append{imm:Nat→List Value}{sz:Nat}{es fs:List D}{xs ys:List Value}(h:d9 imm sz es xs)(h':d9 imm sz fs ys):d9 imm sz (es++fs) (xs++ys):=by
 refine⟨by simp[h.len,h'.len,Nat.add_mul],fun e he=>?_,fun e he=>?_,fun i e j c hi hj=>?_⟩
 ·rcases List.mem_append.1 he with he|he
  ·exact h.hsz e he
  ·exact h'.hsz e he
 ·rcases List.mem_append.1 he with he|he
  ·exact h.one e he
  ·exact h'.one e he
 ·rcases Nat.lt_or_ge i es.length with hlt|hge
  ·rw[List.getElem?_append_left hlt]at hi;have hjl:j<sz:=by rw[←h.hsz e (List.mem_of_getElem? hi)];exact aI hj
   have hk:=oO hlt hjl;have:=h.rel i e j c hi hj;have e1:gv (xs++ys) (i*sz+j)=gv xs (i*sz+j):=by simp[gv,List.getD,List.getElem?_append_left (show i*sz+j<xs.length by rw[h.len];exact hk)]
   rwa [e1]
  ·rw[List.getElem?_append_right hge]at hi;have:=h'.rel (i-es.length) e j c hi hj;have e0:i*sz+j=xs.length+((i-es.length)*sz+j):=by
    rw[h.len];have:i*sz=es.length*sz+(i-es.length)*sz:=by rw[←Nat.add_mul];congr 1;omega
    omega
   have e1:gv (xs++ys) (i*sz+j)=gv ys ((i-es.length)*sz+j):=by
    rw[e0];simp only[gv,List.getD];rw[List.getElem?_append_right (by omega),Nat.add_sub_cancel_left]
   rwa [e1]
theorem d9.Qu{imm:Nat→List Value}{sz:Nat}{es:List D}{xs:List Value}(h:d9 imm sz es xs){b cap:Nat}(hb:imm b=xs)(hcap:es.length≤cap):DRel imm (.slice (some ⟨b,0,none⟩) es.length cap) (.sl sz es):=by
 cases es with
 |nil=>exact .sl0 _ _ _
 |cons e r =>
  refine .sl b 0 cap sz (e::r) (by simp) hcap h.hsz h.one (by rw[hb,h.len];simp) fun i x j c hi hj=>?_
  rw[hb,Nat.zero_add];exact h.rel i x j c hi hj
def bI(l:List UInt8):List D:=l.map fun b=>D.int .u8 (b.toNat:Int)
def DL(Γ:Ctx)(t2 sz:Nat)(v:AV):Option (List D) :=
 match aY Γ.T t2 with
 |some { sh := .str, .. }=>match v with
  | .d (.str s)=>bif Nat.beq sz 1 then some (bI s) else none
  |_=>none
 |some { sh := .slice _, .. }=>match v.unD with
  |some (.sl sz' es)=>bif Nat.beq sz' sz then some es else none
  |_=>none
 |_=>none
section
variable {Γ:Ctx}{nt n0:Nat}{k:List It}{Q:Post}{env:Env}{H:List aN}{G:aO}{w w':World}{a:Act}
theorem pg{imm:Nat→List Value}{sz:Nat}(hpos:0<sz){es:List D}{xs:List Value}(h:d9 imm sz es xs):∀u∈xs,u.oneCell'=true:=fun u hu=>by
 obtain⟨q,hq⟩:=List.getElem?_of_mem hu;have hlt:=aI hq;rw[h.len]at hlt;have hi:q/sz<es.length:=Nat.div_lt_of_lt_mul (by rw[Nat.mul_comm];exact hlt);have hj:q%sz<sz:=Nat.mod_lt _ hpos;have he:=List.getElem?_eq_getElem hi;have hm:=List.getElem_mem hi;have hc:=List.getElem?_eq_getElem (l:=es[q/sz].cells) (i:=q%sz) (by rw[h.hsz _ hm];exact hj);have hr:=h.rel _ _ _ _ he hc;have hd:q/sz*sz+q%sz=q:=by rw[Nat.mul_comm];exact Nat.div_add_mod q sz
 rw[hd]at hr;have:=hr.oneCell (h.one _ hm _ (List.mem_of_getElem? hc));simpa[gv,List.getD,hq]using this
theorem src_ok(hW:bM Γ.gl G H w){t2 sz:Nat}(hpos:0<sz){u:Value}{x:AV}{es:List D}(hu:bA G u x)(hs:DL Γ t2 sz x=some es):
  ∃news,Src Γ.P sz t2 u w es.length news∧d9 G.imm sz es news:=by
 unfold DL at hs;split at hs
 ·rename_i hT;obtain⟨f⟩:=Γ.ty hT;split at hs
  ·rename_i s;cases hb:Nat.beq sz 1 with
   |false=>rw[hb]at hs;cases hs
   | true =>
    rw[hb,cond_true]at hs;cases hs;have:=Nat.eq_of_beq_eq_true hb;subst this;obtain rfl:=hu.gV;have hr:d9 G.imm 1 (bI s) (s.map fun b=>Value.int .u8 (b.toNat:Int)):=by
     refine⟨by simp[bI],fun e he=>?_,fun e he c hc=>?_,fun i e j c hi hj=>?_⟩
     ·obtain⟨b,_,rfl⟩:=List.mem_map.1 he;rfl
     ·obtain⟨b,_,rfl⟩:=List.mem_map.1 he;simp[D.cells]at hc;subst hc;rfl
     ·rw[bI,List.getElem?_map]at hi;cases hq:s[i]? with
      |none=>simp[hq]at hi
      |some b =>
       simp[hq]at hi;subst hi;cases j with
       |zero=>simp[D.cells]at hj;subst hj;simp[gv,List.getD,hq];exact .int _ _
       |succ j=>simp[D.cells]at hj
    have hcells:∀w',(Builtin.firstCells 1 (bI s).length (.string ⟨s.toArray⟩)).run Γ.P w' = .ok (s.map fun b=>Value.int .u8 (b.toNat:Int)).toArray w':=fun w'=>by
     simp only[Builtin.firstCells,Sem.run_pure,bI,List.length_map];congr 1;apply Array.ext';have:(⟨s.toArray⟩:ByteArray).extract 0 s.length=⟨s.toArray⟩:=by
      have:s.length=(⟨s.toArray⟩:ByteArray).size:=by simp[ByteArray.size]
      rw[this,ByteArray.extract_zero_size]
     rw[this];simp
    exact⟨_,⟨.inl (gG f rfl),fun w'=>by simp[Builtin.lenOf,ByteArray.size,bI],hcells w,hcells w.drew,by simp[bI],pg hpos hr⟩,hr⟩
  ·cases hs
 ·rename_i e' hT;obtain⟨f⟩:=Γ.ty hT;have hund:=cQ f rfl;split at hs
  ·rename_i sz' es' hx;cases hb:Nat.beq sz' sz with
   |false=>rw[hb]at hs;cases hs
   | true =>
    rw[hb,cond_true]at hs;cases hs;have:=Nat.eq_of_beq_eq_true hb;subst this;have hd:=uo hu hx;cases hd with
    |sl0 ad cap _ =>
     refine⟨[],⟨.inr ⟨_,hund⟩,fun w'=>by simp[Builtin.lenOf],?_,?_,by simp,by simp⟩,d9.nil _ _⟩;all_goals cases ad<;>simp[Builtin.firstCells,loadCells,loadCellsFrom]
    | sl b o cap _ _ hne hcap hsz hone hin h =>
     have hr:d9 G.imm sz' es ((List.range (es.length*sz')).map fun q=>gv (G.imm b) (o+q)):=by
      refine⟨by simp,hsz,hone,fun i e j c hi hj=>?_⟩;have hjl:j<sz':=by rw[←hsz e (List.mem_of_getElem? hi)];exact aI hj
      have hk:=oO (aI hi) hjl;have:=h i e j c hi hj;simp only[gv,List.getD,List.getElem?_map,List.getElem?_range hk]at this ⊢;simpa[Nat.add_assoc]using this
     have hcell:∀j v,((List.range (es.length*sz')).map fun q=>gv (G.imm b) (o+q))[j]?=some v→w.cell? ((⟨b,o,none⟩:Addr).add j)=some v:=fun j v hj=>by
      have hjl:=aI hj;simp only[List.length_map,List.length_range]at hjl;simp only[List.getElem?_map,List.getElem?_range hjl,Option.map_some,Option.some.injEq]at hj;subst hj;rw[addr_add];exact hW.imm b (o+j) (by omega)
     refine⟨_,⟨.inr ⟨_,hund⟩,fun w'=>by simp[Builtin.lenOf],?_,?_,by simp,pg hpos hr⟩,hr⟩
     ·exact run_firstCells_some (P:=Γ.P) w _ _ _ _ _ _ (by simp) hcell
     ·exact run_firstCells_some (P:=Γ.P) w.drew _ _ _ _ _ _ (by simp) (by simpa using hcell)
  ·cases hs
 ·cases hs
theorem sH{P:Program}{o:Oper}{s x:Operand}{T T2:Nat}(hop:o.op = .call { callee := .builtin .append,args:=#[s,x],argTypes:=#[T,T2] })(a:Act){w w':World}{v':Value}
  (h:(Builtin.append_ #[T,T2] o.type #[a.eval s,a.eval x]).run P w = .ok v' w'):(execOp a.eval o).run P w = .ok (.value v') w':=by
 unfold execOp;simp only[hop,resolve,invoke,builtin,Sem.run_bind,Sem.run_pure,Result.andThen_ok,List.map_toArray,List.map_cons,List.map_nil,h]
theorem Apd.val{w w':World}{e:TypeId}{sz:Nat}{z v v':Value}{n m:Nat}{xs news:List Value}(hn0:v = .slice none 0 0→n=0)(h:Apd w e sz z v n xs m news v' w'):
  (v' = .slice none 0 0∧n+m=0)∨∃b c,v' = .slice (some ⟨b,0,none⟩) (n+m) c∧n+m≤c:=by
 cases h with
 |inPlace g cap cur hv hg h1=>exact .inr ⟨g,cap,rfl,h1⟩
 |grown c h0 h1=>exact .inr ⟨_,c,rfl,h1⟩
 |nil hv hn hm=>exact .inl ⟨hv,by omega⟩
theorem Dr{all:Array Oper}{o:Oper}{l:List Oper}{t T T2 e id:Nat}{es es2:List D}{te ti:TI}{s x:Operand}{H':List aN}{xs:List Value}{v:Value}{G0:aO}
  (hop:o.op = .call { callee := .builtin .append,args:=#[s,x],argTypes:=#[T,T2] }) (hg:o.guard=none) (hd:o.dst=some t) (ht:Nat.ble (t+1) nt=true)
  (hT:aY Γ.T T=some ti) (hsh:ti.sh = .slice e) (hE:aY Γ.T e=some te) (hx:DL Γ T2 te.size (ev Γ env x)=some es2) (hlim:es.length+es2.length≤140737488355328∧(es.length+es2.length)*te.bytes≤140737488355328) (hpos:Nat.ble 1 te.size=true)
  (h0:GLe n0 G0 G) (hl:n0≤H.length) (hF:df G nt a.tmps env) (hdf:a.defers=[]) (hW:bM Γ.gl G H w)
  (hev:a.eval s=v) (hown:w.ownsRow 0 e te.size v es.length xs) (himm:∀b,v.ownBlock=some b→G.imm b=xs) (hlast:∀q,es.length<q→G.fl id q=none)
  (hold:(H[id]?=some (.front e te.size es.length)∧G.fl id es.length=some v)∨(id=H.length∧v = .slice none 0 0))
  (hrr:d9 G.imm te.size es xs) (hlen:H.length≤H'.length) (hH1:H'[id]?=some (.front e te.size (es++es2).length)) (hH2:∀i,i≠id→H'[i]?=H[i]?)
  (h:aa Γ nt n0 (.ops all l::k) Q ((t, .own te.size (es++es2) id)::env) H'):wpList Γ.P all (aZ Γ.P (Conc Γ nt n0 G0 Q) k) (o::l) a w:=by
 obtain⟨f⟩:=Γ.ty hT;obtain⟨fe⟩:=Γ.ty hE;have hp:0<te.size:=Nat.le_of_ble_eq_true hpos;have hund:=cQ f hsh;have hzs:fe.z.cells.size=te.size:=by
  have:=(iq (imm:=G.imm) fe.zok).1;rw[fe.zlen]at this;simpa using this
 obtain⟨news,hsrc,hrn⟩:=src_ok hW hp (bN hW hF x) hx;obtain⟨v',w',hr,hapd⟩:=Fe (P:=Γ.P) w T T2 o.type e fe.i fe.z te.size te.bytes hund fe.info fe.hz fe.size fe.bytes v es.length xs hown (a.eval x) es2.length news hsrc
  (by simp only[maxLen];omega) hlim.2
 obtain⟨g1,g2⟩:=hW.app hzs hown himm id hlast hold hsrc.hl hapd H' hlen (by simpa using hH1) hH2;have hv:bA (G.app id (es.length+es2.length) v' (xs++news)) v' (.own te.size (es++es2) id):=by
  refine .own _ _ _ _ (by simp[aO.app]) ?_;have hrr':=(hrr.append hrn).mono g1.imm
  rcases hapd.val (fun hv=>by
   rcases hown.2 with⟨_,h2⟩|⟨g,cap,cur,h2,_⟩
   ·exact h2
   ·rw[hv]at h2;cases h2)with⟨rfl,hn⟩|⟨b,c,rfl,hc⟩
  ·have:es++es2=[]:=List.eq_nil_of_length_eq_zero (by simpa using hn);rw[this];exact .sl0 _ _ _
  ·have:=hrr'.Qu (b:=b) (cap:=c) (by simp[aO.app,Value.ownBlock]) (by simpa using hc)
   rwa [List.length_append]at this
 have hn:=h G0 _ (a.put (some t) v') w' (h0.trans (g1.weaken hl)) (by omega) ((hF.up g1 hW.lim).put ht hv) (by simp[Act.put,hdf]) g2;simp only[aZ]at hn;unfold wpList;rw[if_pos (ba hg)];refine .inl ?_;have hr':=sH (P:=Γ.P) hop a (by rw[hev];exact hr);unfold Oper.wp;rw[hr'];simp only[Oper.upon,hd];exact hn
theorem aa.append{all:Array Oper}{o:Oper}{l:List Oper}{t T T2 e id n:Nat}{es es2:List D}{te ti:TI}{s x:Operand}
  (hop:o.op = .call { callee := .builtin .append,args:=#[s,x],argTypes:=#[T,T2] }) (hg:o.guard=none) (hd:o.dst=some t) (ht:Nat.ble (t+1) nt=true)
  (hT:aY Γ.T T=some ti) (hsh:ti.sh = .slice e) (hE:aY Γ.T e=some te) (hs:ev Γ env s = .own te.size es id) (hh:hget H id=some (.front e te.size n)) (hx:DL Γ T2 te.size (ev Γ env x)=some es2)
  (hpos:Nat.ble 1 te.size=true) (hn:n=es.length) (hlim:es.length+es2.length≤140737488355328∧(es.length+es2.length)*te.bytes≤140737488355328)
  (h:aa Γ nt n0 (.ops all l::k) Q ((t, .own te.size (es++es2) id)::env) (H.set id (.front e te.size (es++es2).length))):aa Γ nt n0 (.ops all (o::l)::k) Q env H :=
 fun G0 G a w h0 hl hF hdf hW=>by
  subst hn;rw[dA]at hh;have hlt:=aI hh;obtain⟨v,xs,o1,o2,o3,o4⟩:=hW.obj id _ hh;have hsv:=bN hW hF s;rw[hs]at hsv;generalize hve:a.eval s=sv at hsv;cases hsv with
  | own _ _ _ _ hfl hdr =>
   have hfl':=hfl;rw[o1]at hfl';cases hfl';have hrr:d9 G.imm te.size es xs:=by
    rcases o2.2 with⟨rfl,h2⟩|⟨g,cap,cur,rfl,_,_,hnc,_⟩
    ·have e1:=List.eq_nil_of_length_eq_zero h2;subst e1;have:xs=[]:=List.eq_nil_of_length_eq_zero (by simpa using o2.1);subst this;exact .nil _ _
    ·have hg:=o3 g rfl;generalize hes:es.length=len at hdr o2 hnc;cases hdr with
     |sl0 =>
      have:xs=[]:=List.eq_nil_of_length_eq_zero (by simpa using o2.1);subst this;exact .nil _ _
     |sl b o cap sz es hne hcap hsz hone hin hr =>
      refine⟨o2.1,hsz,hone,fun i e j c hi hj=>?_⟩;have:=hr i e j c hi hj
      rwa [hg,Nat.zero_add]at this
   simp only[aZ];exact Dr hop hg hd ht hT hsh hE hx hlim hpos h0 hl hF hdf hW hve o2 o3 o4 (.inl ⟨hh,o1⟩) hrr (by simp) (by simp[hlt]) (fun i hi=>by simp[List.getElem?_set,Ne.symm hi]) h
theorem aa.Gx{all:Array Oper}{o:Oper}{l:List Oper}{t T T2 e:Nat}{es2:List D}{te ti:TI}{s x:Operand}
  (hop:o.op = .call { callee := .builtin .append,args:=#[s,x],argTypes:=#[T,T2] }) (hg:o.guard=none) (hd:o.dst=some t) (ht:Nat.ble (t+1) nt=true)
  (hT:aY Γ.T T=some ti) (hsh:ti.sh = .slice e) (hE:aY Γ.T e=some te) (hs:ev Γ env s = .d .aU) (hx:DL Γ T2 te.size (ev Γ env x)=some es2)
  (hpos:Nat.ble 1 te.size=true) (hlim:es2.length≤140737488355328∧es2.length*te.bytes≤140737488355328)
  (h:aa Γ nt n0 (.ops all l::k) Q ((t, .own te.size es2 H.length)::env) (H++[.front e te.size es2.length])):aa Γ nt n0 (.ops all (o::l)::k) Q env H :=
 fun G0 G a w h0 hl hF hdf hW=>by
  have hsv:=bN hW hF s;rw[hs]at hsv;generalize hve:a.eval s=sv at hsv;cases hsv with
  | d _ _ hdr =>
   cases hdr;simp only[aZ];exact Dr (H':=H++[.front e te.size es2.length]) (es:=[]) (xs:=[]) hop hg hd ht hT hsh hE hx (by simpa using hlim) hpos h0 hl hF hdf hW hve (World.ownsRow_nil _ _ _ _) (fun b hb=>by cases hb) (fun q _=>(hW.lim _ (Nat.le_refl _)).2 q)
    (.inr ⟨rfl, rfl⟩) (.nil _ _) (by simp) (by simp) (fun i hi => by
     rcases Nat.lt_or_ge i H.length with h1|h1
     ·simp[List.getElem?_append_left h1]
     ·rw[List.getElem?_append_right h1,List.getElem?_eq_none h1];have:i-H.length=(i-H.length-1)+1:=by omega
      rw[this];simp) (by simpa using h)
end
end
section
open Go Go.RowKit
section
variable {Γ:Ctx}{nt n0:Nat}{k:List It}{Q:Post}{env:Env}{H:List aN}{G:aO}{w w':World}{a:Act}
theorem lg(l m:List UInt8):bI (l++m)=bI l++bI m:=by simp[bI]
theorem jB(l:List UInt8):(bI l).length=l.length:=by simp[bI]
theorem rf{w:World}{u:Value}{l:List UInt8}(hW:bM Γ.gl G H w)(hu:DRel G.imm u (.sl 1 (bI l))):
  (Conv.bytesToString u).run Γ.P w = .ok (.string ⟨l.toArray⟩) w:=by
 generalize hes:bI l=es at hu;cases hu with
 |sl0 ad cap =>
  have:l=[]:=List.eq_nil_of_length_eq_zero (by have:=congrArg List.length hes;simpa[bI]using this);subst this;cases ad<;>simp[Conv.bytesToString,loadCells,loadCellsFrom]<;>rfl
 | sl b o cap _ _ hne hcap hsz hone hin h =>
  have hlen:es.length=l.length:=by rw[←hes,jB]
  have hc:(loadCells ⟨b,o,none⟩ es.length).run Γ.P w = .ok ((l.map fun b=>(b.toNat:Int)).map (Value.int .u8)).toArray w:=by
   have:=run_loadCells_list (P:=Γ.P) w ⟨b,o,none⟩ ((l.map fun b=>(b.toNat:Int)).map (Value.int .u8)) (fun j v hj=>by
    rw[addr_add];simp only[List.map_map,List.getElem?_map]at hj;cases hq:l[j]? with
    |none=>simp[hq]at hj
    |some x =>
     simp[hq]at hj;subst hj;have hjl:=aI hq;have he:es[j]?=some (D.int .u8 (x.toNat:Int)):=by rw[←hes];simp[bI,hq]
     have hr:=h j _ 0 (D.int .u8 (x.toNat:Int)) he rfl;simp only[Nat.mul_one,Nat.add_zero]at hr;have hi:=hW.imm b (o+j) (by omega);generalize gv (G.imm b) (o+j)=g at hr hi;cases hr
     exact hi)
   simpa[hlen]using this
  rw[run_bytesToString w ⟨b,o,none⟩ es.length cap _ hc];congr 2;have key:∀(m:List UInt8) (s:ByteArray),(m.map fun b=>(b.toNat:Int)).foldl (fun r n=>r.push (UInt8.ofNat n.toNat)) s=⟨(s.data.toList++m).toArray⟩:=by
   intro m
   induction m with
   |nil=>intro s;simp
   |cons x m ih=>intro s;simp only[List.map_cons,List.foldl_cons];rw[ih];simp[ByteArray.push]
  rw[key];simp
theorem IQ{o:Oper}{S Dt e:Nat}{x:Operand}{ti te td:TI}{es:List D}{l:List UInt8}(hop:o.op = .convert S Dt x)(hS:aY Γ.T S=some ti)(hsh:ti.sh = .slice e)(hE:aY Γ.T e=some te)
  (hesh:te.sh = .int .u8) (hD:aY Γ.T Dt=some td) (hdsh:td.sh = .str) (hx:(ev Γ env x).unD=some (.sl 1 es)) (hes:es=bI l) (hW:bM Γ.gl G H w) (hF:df G nt a.tmps env) :
  (execOp a.eval o).run Γ.P w = .ok (.value (.string ⟨l.toArray⟩)) w:=by
 subst hes;obtain⟨f⟩:=Γ.ty hS;obtain⟨fe⟩:=Γ.ty hE;obtain⟨fd⟩:=Γ.ty hD;have hu:=uo (bN hW hF x) hx;have hb:=rf hW hu;have hsl:∃ad ln cp,a.eval x = .slice ad ln cp:=by
  generalize a.eval x=u at hu;generalize bI l=es at hu;cases hu<;>exact⟨_,_,_,rfl⟩
 obtain⟨ad,ln,cp,hv⟩:=hsl;rw[hv]at hb;have hc:=run_convert_bytes_string (P:=Γ.P) w S Dt e ad ln cp (cQ f hsh) (kX fe hesh) (gG fd hdsh);unfold execOp;simp[hop,hv,hc,hb]
theorem BH(l:List UInt8):bA G (.string ⟨l.toArray⟩) (.d (.str l)):=by
 have:=DRel.str (imm:=G.imm) ⟨l.toArray⟩;exact .d _ _ (by simpa using this)
theorem aa.SS{all:Array Oper}{o:Oper}{l':List Oper}{t S Dt e:Nat}{x:Operand}{ti te td:TI}{es:List D}{l:List UInt8}(hop:o.op = .convert S Dt x)(hg:o.guard=none)(hd:o.dst=some t)(ht:Nat.ble (t+1) nt=true)
  (hS:aY Γ.T S=some ti) (hsh:ti.sh = .slice e) (hE:aY Γ.T e=some te) (hesh:te.sh = .int .u8) (hD:aY Γ.T Dt=some td) (hdsh:td.sh = .str) (hx:(ev Γ env x).unD=some (.sl 1 es)) (hes:es=bI l)
  (h:aa Γ nt n0 (.ops all l'::k) Q ((t, .d (.str l))::env) H):aa Γ nt n0 (.ops all (o::l')::k) Q env H :=
 fun G0 G a w h0 hl hF hdf hW=>by
  have hr:=IQ hop hS hsh hE hesh hD hdsh hx hes hW hF;have hn:=h G0 G (a.put (some t) (.string ⟨l.toArray⟩)) w h0 hl (hF.put ht (BH l)) (by simp[Act.put,hdf]) hW;simp only[aZ]at hn ⊢;unfold wpList;rw[if_pos (ba hg)];refine .inl ?_;unfold Oper.wp;rw[hr];simp only[Oper.upon,hd];exact hn
theorem aa.DK{all:Array Oper}{o:Oper}{l':List Oper}{t S Dt e:Nat}{x:Operand}{ti te td:TI}{es:List D}{l:List UInt8}(h:aa Γ nt n0 (.ops all l'::k) Q ((t, .d (.str l))::env) H)(hop:o.op = .convert S Dt x:=by rfl)(hg:o.guard=none:=by rfl)(hd:o.dst=some t:=by rfl)(ht:Nat.ble (t+1) nt=true:=by rfl)(hS:aY Γ.T S=some ti:=by rfl)(hsh:ti.sh = .slice e:=by rfl)(hE:aY Γ.T e=some te:=by rfl)(hesh:te.sh = .int .u8:=by rfl)(hD:aY Γ.T Dt=some td:=by rfl)(hdsh:td.sh = .str:=by rfl)(hx:(ev Γ env x).unD=some (.sl 1 es):=by rfl)(hes:es=bI l:=by rfl):aa Γ nt n0 (.ops all (o::l')::k) Q env H:=aa.SS hop hg hd ht hS hsh hE hesh hD hdsh hx hes h
end
end
section
open Go Go.RowKit
def eu(Γ:Ctx)(nt:Nat)(env:Env)(H:List aN)(o:Oper)(v:AV):Prop :=
 ∀(G:aO) (a:Act) (w:World),bM Γ.gl G H w→df G nt a.tmps env→∃u,bA G u v∧∀w',Below w.heap.size w w'→(execOp a.eval o).run Γ.P w' = .ok (.value u) w'
section
variable {Γ:Ctx}{nt n0:Nat}{k:List It}{Q:Post}{env:Env}{H:List aN}
theorem aa.opx{all:Array Oper}{o:Oper}{l:List Oper}{t:Nat}{v:AV}(hx:eu Γ nt env H o v)(hg:o.guard=none)(hd:o.dst=some t)(ht:Nat.ble (t+1) nt=true)
  (h:aa Γ nt n0 (.ops all l::k) Q ((t,v)::env) H):aa Γ nt n0 (.ops all (o::l)::k) Q env H :=
 fun G0 G a w h0 hl hF hdf hW=>by
  obtain⟨u,hu,hr⟩:=hx G a w hW hF;have hn:=h G0 G (a.put (some t) u) w h0 hl (hF.put ht hu) (by simp[Act.put,hdf]) hW;simp only[aZ]at hn ⊢;unfold wpList;rw[if_pos (ba hg)];refine .inl ?_;unfold Oper.wp;rw[hr w (Below.refl _ _)];simp only[Oper.upon,hd];exact hn
theorem aa.mr{all:Array Oper}{o:Oper}{l:List Oper}{t:Nat}{v:AV}(h:aa Γ nt n0 (.ops all l::k) Q ((t,v)::env) H)(hx:eu Γ nt env H o v:=by (apply zX;(iterate 12 rfl)))(hg:o.guard=none:=by rfl)(hd:o.dst=some t:=by rfl)(ht:Nat.ble (t+1) nt=true:=by rfl):aa Γ nt n0 (.ops all (o::l)::k) Q env H:=aa.opx hx hg hd ht h
theorem aa.o9{all:Array Oper}{o:Oper}{l:List Oper}{t:Nat}{v:AV}(h:aa Γ nt n0 (.ops all l::k) Q ((t,v)::env) H)(hx:eu Γ nt env H o v:=by (apply bR;(iterate 7 rfl);(first|omega|(rw[hn];omega));exact g1))(hg:o.guard=none:=by rfl)(hd:o.dst=some t:=by rfl)(ht:Nat.ble (t+1) nt=true:=by rfl):aa Γ nt n0 (.ops all (o::l)::k) Q env H:=aa.opx hx hg hd ht h
theorem aa.vp{all:Array Oper}{o:Oper}{l:List Oper}{t:Nat}{v:AV}(h:aa Γ nt n0 (.ops all l::k) Q ((t,v)::env) H)(hx:eu Γ nt env H o v:=by (apply bR;(iterate 7 rfl);(first|omega|(rw[hm];omega));exact g2))(hg:o.guard=none:=by rfl)(hd:o.dst=some t:=by rfl)(ht:Nat.ble (t+1) nt=true:=by rfl):aa Γ nt n0 (.ops all (o::l)::k) Q env H:=aa.opx hx hg hd ht h
theorem aa.yN{all:Array Oper}{o:Oper}{l:List Oper}{t:Nat}{v:AV}(h:aa Γ nt n0 (.ops all l::k) Q ((t,v)::env) H)(hx:eu Γ nt env H o v:=by (apply bR;(iterate 7 rfl);(first|omega|(rw[el];omega)|(rw[em];omega));exact g1))(hg:o.guard=none:=by rfl)(hd:o.dst=some t:=by rfl)(ht:Nat.ble (t+1) nt=true:=by rfl):aa Γ nt n0 (.ops all (o::l)::k) Q env H:=aa.opx hx hg hd ht h
theorem aa.yM{all:Array Oper}{o:Oper}{l:List Oper}{t:Nat}{v:AV}(h:aa Γ nt n0 (.ops all l::k) Q ((t,v)::env) H)(hx:eu Γ nt env H o v:=by (apply bR;(iterate 7 rfl);(first|omega|(rw[el];omega)|(rw[em];omega));exact g2))(hg:o.guard=none:=by rfl)(hd:o.dst=some t:=by rfl)(ht:Nat.ble (t+1) nt=true:=by rfl):aa Γ nt n0 (.ops all (o::l)::k) Q env H:=aa.opx hx hg hd ht h
theorem aa.yj{all:Array Oper}{o:Oper}{l:List Oper}{t:Nat}{v:AV}(hx:eu Γ nt env H o v)(hg:o.guard=none)(hd:o.dst=some t)(ht:Nat.ble (t+1) nt=true)
  (h:aa Γ nt n0 (.qops all l::k) Q ((t,v)::env) H):aa Γ nt n0 (.qops all (o::l)::k) Q env H :=
 fun G0 G a w h0 hl hF hdf hW=>by
  obtain⟨u,hu,hr⟩:=hx G a w hW hF;have hn:=h G0 G (a.put (some t) u) w h0 hl (hF.put ht hu) (by simp[Act.put,hdf]) hW;simp only[aZ]at hn ⊢;unfold wpQuiet;rw[if_pos (ba hg)];refine⟨u,fun w' hb=>?_,by rw[hd];exact hn⟩;unfold Oper.quietAt;rw[hr w' hb];exact⟨rfl,rfl⟩
theorem aa.I0{all:Array Oper}{o:Oper}{l:List Oper}{t:Nat}{v:AV}(hx:eu Γ nt env H o v)(hg:o.guard=none)(hd:o.dst=some t)(ht:Nat.ble (t+1) nt=true)
  (h:aa Γ nt n0 (.sops all l::k) Q ((t,v)::env) H):aa Γ nt n0 (.sops all (o::l)::k) Q env H :=
 fun G0 G a w h0 hl hF hdf hW=>by
  obtain⟨u,hu,hr⟩:=hx G a w hW hF;have hn:=h G0 G (a.put (some t) u) w h0 hl (hF.put ht hu) (by simp[Act.put,hdf]) hW;simp only[aZ]at hn ⊢;unfold wpStill;rw[if_pos (ba hg)];unfold Oper.still;rw[hr w (Below.refl _ _),Oper.stillUpon_value,hd];exact hn
def jO(k:IntKind):List D→Option (List Int)
 |[]=>some []
 | .int k' n::r=>bif decide (k=k') then (match jO k r with|some l=>some (n::l)|none=>none) else none
 |_::_=>none
theorem yZ{k:IntKind}:∀{cs:List D} {xs:List Int},jO k cs=some xs→cs=xs.map (.int k)
 |[],xs,h=>by simp[jO]at h;subst h;rfl
 | .int k' n :: r, xs, h => by
  simp only[jO]at h;by_cases e:k=k'
  ·subst e;rw[decide_eq_true rfl,cond_true]at h;split at h
   ·rename_i l hl;cases h;rw[yZ hl];rfl
   ·cases h
  ·rw[decide_eq_false e,cond_false]at h;cases h
 | .bool _::_,_,h=>by simp[jO]at h
 | .str _::_,_,h=>by simp[jO]at h
 | .nilp::_,_,h=>by simp[jO]at h
 | .aU::_,_,h=>by simp[jO]at h
 | .sl _ _::_,_,h=>by simp[jO]at h
 | .agg _::_,_,h=>by simp[jO]at h
 | .iptr _::_,_,h=>by simp[jO]at h
 | .top::_,_,h=>by simp[jO]at h
theorem CK{G:aO}{u:Value}{k:IntKind}{cs:List D}{xs:List Int}(h:bA G u (.d (.agg cs)))(hc:jO k cs=some xs):u = .agg (xs.map (Value.int k)).toArray:=by
 rw[yZ hc]at h;cases h with
 | d _ _ h =>
  cases h with
  | agg vs _ hl hone h =>
   congr 1;apply Array.ext';apply List.ext_getElem?;intro i;simp only[List.getElem?_map];rw[List.length_map]at hl;by_cases hi:i<xs.length
   ·have:=h i (.int k xs[i]) (by simp[hi]);have e:vs.toList[i]?=some (gv vs.toList i):=jm (by simp;omega);rw[e];generalize gv vs.toList i=z at this;cases this;simp[hi]
   ·rw[List.getElem?_eq_none (by simp;omega),List.getElem?_eq_none (l:=xs) (by omega)];rfl
theorem tV{P:Program}{e:TypeId}{k k':IntKind}(d:Nat)(hu:P.underlying e=some (.int k'))(xs ys:List Int)(w:World):∀(is:List Nat),(∀i∈is,i<xs.length)→(∀i∈is,i<ys.length) →
  (Op.eqItems (d+1) e 1 (xs.map (Value.int k)).toArray (ys.map (Value.int k)).toArray is).run P w = .ok (is.all fun i=>xs.getD i 0==ys.getD i 0) w
 |[],_,_=>by simp[Op.eqItems]
 |i::is,hx,hy=>by
  have h1:=hx i (by simp);have h2:=hy i (by simp);have hp:P.plainKey e=true:=by simp[Program.plainKey,hu]
  have p1:=run_part_plain (P:=P) w hp (xs:=(xs.map (Value.int k)).toArray) (off:=i) (v := .int k (xs.getD i 0)) (by simp[List.getD,h1]);have p2:=run_part_plain (P:=P) w hp (xs:=(ys.map (Value.int k)).toArray) (off:=i) (v := .int k (ys.getD i 0)) (by simp[List.getD,h2]);have ih:=tV (k:=k) d hu xs ys w is (fun j hj=>hx j (by simp[hj])) (fun j hj=>hy j (by simp[hj]));simp only[Op.eqItems,Sem.run_bind,Nat.mul_one,p1,p2,Result.andThen_ok,run_equalIn_int w d e k k' _ _ hu,List.all_cons];cases hb:(xs.getD i 0==ys.getD i 0)with
  |false=>simp
  |true=>simpa using ih
theorem yu(xs ys:List Int)(n:Nat)(hx:xs.length=n)(hy:ys.length=n):(List.range n).all (fun i=>xs.getD i 0==ys.getD i 0)=decide (xs=ys):=by
 rw[Bool.eq_iff_iff,List.all_eq_true,decide_eq_true_iff];constructor
 ·intro h;apply List.ext_getElem (by omega);intro i h1 h2;have:=h i (by simp;omega);simpa[List.getD,h1,h2]using this
 ·rintro rfl i _;simp
theorem Ez{op:BinOp}{T e n:Nat}{k:IntKind}{xs ys:List Int}{ti te:TI}{x y:Operand}(hT:aY Γ.T T=some ti)(hsh:ti.sh = .array n e)(hE:aY Γ.T e=some te)
  (hesh:te.sh = .int k) (hag:te.agg=false) (hn:xs.length=n) (hm:ys.length=n) (w:World) :
  (eqGuard op T x y (.agg (xs.map (Value.int k)).toArray) (.agg (ys.map (Value.int k)).toArray)).run Γ.P w = .ok () w ∧
  (binOp .eql T (.agg (xs.map (Value.int k)).toArray) (.agg (ys.map (Value.int k)).toArray)).run Γ.P w = .ok (.bool (decide (xs=ys))) w ∧
  (binOp .neq T (.agg (xs.map (Value.int k)).toArray) (.agg (ys.map (Value.int k)).toArray)).run Γ.P w = .ok (.bool (!decide (xs=ys))) w:=by
 obtain⟨f⟩:=Γ.ty hT;obtain⟨fe⟩:=Γ.ty hE;have hu:=lT f hsh;have hue:=kX fe hesh;have hgt:Γ.P.eqGuardType Γ.P.depth T=false:=by
  have:∃m,Γ.P.depth=m+2:=⟨_,rfl⟩;obtain⟨m,hm⟩:=this;rw[hm];simp[Program.eqGuardType,hu,hue]
 have hg:=run_eqGuard_agg (P:=Γ.P) w op T x y (xs.map (Value.int k)).toArray (ys.map (Value.int k)).toArray hgt;have hc:Γ.P.cellsOf e=1:=by simp[Program.cellsOf,fe.info,fe.size,fe.one hag]
 have he:(Op.equalIn 10000 T (.agg (xs.map (Value.int k)).toArray) (.agg (ys.map (Value.int k)).toArray)).run Γ.P w = .ok (decide (xs=ys)) w:=by
  rw[show (10000:Nat)=9998+1+1 from rfl,run_equalIn_array w (9998+1) _ _ hu fe.info,hc,tV 9998 hue xs ys w (List.range n) (by simp;omega) (by simp;omega),yu xs ys n hn hm]
 exact⟨hg,by simp only[run_eql_struct,he,Result.andThen_ok],by simp only[run_neq_struct,he,Result.andThen_ok]⟩
theorem zX{o:Oper}{T T' e n:Nat}{k:IntKind}{xs ys:List Int}{cs ds:List D}{ti te:TI}{x y:Operand}(hop:o.op = .binOp .eql T x y T')(hx:ev Γ env x = .d (.agg cs))(hy:ev Γ env y = .d (.agg ds))
  (hT:aY Γ.T T=some ti) (hsh:ti.sh = .array n e) (hE:aY Γ.T e=some te) (hesh:te.sh = .int k) (hag:te.agg=false) (h1:jO k cs=some xs) (h2:jO k ds=some ys)
  (hn:xs.length=n) (hm:ys.length=n):eu Γ nt env H o (.d (.bool (decide (xs=ys)))):=by
 intro G a w hW hF;refine⟨_, .d _ _ (.bool _),fun w' hb=>?_⟩;have e1:=bN hW hF x;have e2:=bN hW hF y;rw[hx]at e1;rw[hy]at e2;have v1:=CK e1 h1;have v2:=CK e2 h2;obtain⟨g1,g2,_⟩:=Ez (op := .eql) (x:=x) (y:=y) hT hsh hE hesh hag hn hm w';unfold execOp;simp[hop,v1,v2,g1,g2]
end
end
section
open Go Go.RowKit Go.WideShapes
def szT(T:List (Nat×TI))(t:Nat):Nat:=match aY T t with|some ti=>ti.size|none=>0
def agT(T:List (Nat×TI))(t:Nat):Bool:=match aY T t with|some ti=>ti.agg|none=>false
def TyC(T:List (Nat×TI)):Nat→Nat→List D→Prop
 |0,_,_=>False
 | f + 1, t, cs => match aY T t with
  |some ti=>match ti.sh with
   | .bool=>∃b,cs=[.bool b]
   | .int k=>∃n,cs=[.int k n]∧(Lit.int k n).wf=true
   | .str=>∃s,cs=[.str s]∧s.length≤9223372036854775807
   | .slice e=>cs=[.aU]∨∃es,cs=[.sl (szT T e) es]∧es.length≤9223372036854775807∧∀x∈es,TyC T f e x.cells∧(agT T e=true→∃l,x = .agg l)
   | .struct fs=>cs.length=ti.size∧∀o t',(o,t')∈fs→TyC T f t' ((cs.drop o).take (szT T t'))
   | .array n e=>cs.length=ti.size∧∀i,i<n→TyC T f e ((cs.drop (i*szT T e)).take (szT T e))
   |_=>False
  |none=>False
def TyV(T:List (Nat×TI))(f t:Nat)(x:D):Prop:=TyC T f t x.cells∧(agT T t=true→∃l,x = .agg l)
def uM(T:List (Nat×TI)):Nat→List (Nat×Nat)→Option Nat
 |o,[]=>some o
 |o,(o',t)::r=>bif Nat.beq o o' then uM T (o+szT T t) r else none
def mS(T:List (Nat×TI)):Nat→Nat→Bool
 |0,_=>false
 | f + 1, t => match aY T t with
  |some ti=>match ti.sh with
   | .bool | .int _ | .str=>true
   | .slice e=>(mS T f e&&(agT T e||Nat.beq (szT T e) 1))&&Nat.ble 1 (szT T e)
   | .struct fs=>ti.agg&&(match uM T 0 fs with|some n=>Nat.beq n ti.size|none=>false)&&fs.all fun x=>mS T f x.2
   | .array n e=>ti.agg&&Nat.beq (n*szT T e) ti.size&&mS T f e
   |_=>false
  |none=>false
section
variable {Γ:Ctx}{W:World}{H:Type}{enc:TypeId×Value→H}{base:Nat}{spare:Nat→Bool}{held:Bool}
structure Told(T:List (Nat×TI))(imm:Nat→List Value)(f t:Nat)(vs:List Value)(cs:List D):Prop where
 len:cs.length=vs.length
 one:∀c∈cs,c.one=true
 rel:∀(i:Nat) (c:D),cs[i]?=some c→DRel imm (gv vs i) c
 ty:TyC T f t cs
theorem DI{t:Nat}{ti:TI}(h:aY Γ.T t=some ti):szT Γ.T t=ti.size:=by simp[szT,h]
theorem mG{t:Nat}{ti:TI}(f:dQ Γ.P t ti):Γ.P.cellsOf t=ti.size:=by simp[Program.cellsOf,f.info,f.size]
theorem GH{T:List (Nat×TI)}{imm:Nat→List Value}{f e sz:Nat}{vs:List Value}(n:Nat)(hv:n*sz≤vs.length)(h:∀i,i<n→∃cs,Told T imm f e ((vs.drop (i*sz)).take sz) cs):
  ∃cs:List D,cs.length=n*sz∧(∀c∈cs,c.one=true)∧(∀(i:Nat) (c:D),cs[i]?=some c→DRel imm (gv vs i) c)∧∀i,i<n→TyC T f e ((cs.drop (i*sz)).take sz):=by
 induction n with
 |zero=>exact⟨[],by simp,by simp,by simp,fun i hi=>absurd hi (by omega)⟩
 | succ n ih =>
  have hm:n*sz+sz≤vs.length:=by rw[←Nat.succ_mul];exact hv
  obtain⟨cs,c1,c2,c3,c4⟩:=ih (by omega) (fun i hi=>h i (by omega));obtain⟨ds,d1,d2,d3,d4⟩:=h n (by omega);have hds:ds.length=sz:=by rw[d1];simp;omega
  refine⟨cs++ds,by simp[c1,hds,Nat.succ_mul],fun c hc=>by rcases List.mem_append.1 hc with h|h;exact c2 c h;exact d2 c h,fun i c hc=>?_,fun i hi=>?_⟩
  ·rcases Nat.lt_or_ge i cs.length with hl|hl
   ·rw[List.getElem?_append_left hl]at hc;exact c3 i c hc
   ·rw[List.getElem?_append_right hl]at hc;have:=d3 _ c hc;have hlt:=aI hc;have e:gv ((vs.drop (n*sz)).take sz) (i-cs.length)=gv vs i:=by
     simp only[gv,List.getD,li,c1];rw[if_pos (by omega)];congr 3;omega
    rwa [e]at this
  ·rcases Nat.lt_or_ge i n with hl|hl
   ·have hb:i*sz+sz≤n*sz:=by rw[←Nat.succ_mul];exact Nat.mul_le_mul_right _ hl
    have e:((cs++ds).drop (i*sz)).take sz=(cs.drop (i*sz)).take sz:=by
     rw[List.drop_append_of_le_length (by omega),List.take_append_of_le_length (by simp;omega)]
    rw[e];exact c4 i hl
   ·obtain rfl:i=n:=by omega
    have e:((cs++ds).drop (i*sz)).take sz=ds:=by
     rw[←c1,List.drop_left,List.take_of_length_le (by omega)]
    rw[e];exact d4
theorem vh{f:Nat}{vs:List Value}(IH:∀t,mS Γ.T f t=true→∀(fuel:Nat) (us:List Value) x,DataW.trod enc Γ.P W base spare held fuel t us=some x→∃cs,Told Γ.T (immOf W) f t us cs)(m:Nat):
  ∀(gs:List Field) (fs:List (Nat×Nat)) (o n:Nat),eQ Γ.P gs fs=true→uM Γ.T o fs=some n→(∀x∈fs,mS Γ.T f x.2=true)→n≤vs.length →
   (∀g∈gs,∃x,DataW.trod enc Γ.P W base spare held m g.type ((vs.drop g.offset).take (Γ.P.cellsOf g.type))=some x) →
   ∃cs:List D,o+cs.length=n∧(∀c∈cs,c.one=true)∧(∀(i:Nat) (c:D),cs[i]?=some c→DRel (immOf W) (gv vs (o+i)) c) ∧
    ∀o' t',(o',t')∈fs→o≤o'∧TyC Γ.T f t' ((cs.drop (o'-o)).take (szT Γ.T t'))
 |[],[],o,n,_,hc,_,_,_=>by
  simp[uM]at hc;subst hc;exact⟨[],by simp,by simp,by simp,fun o' t' h=>by simp at h⟩
 |[],_::_,_,_,h,_,_,_,_=>by simp[eQ]at h
 |_::_,[],_,_,h,_,_,_,_=>by simp[eQ]at h
 | g :: gs, (o1, t1) :: fs, o, n, hf, hc, hg, hn, ht => by
  simp only[eQ,Bool.and_eq_true,beq_iff_eq]at hf;obtain⟨⟨⟨h1,h2⟩,h3⟩,h4⟩:=hf;simp only[uM]at hc;cases hb:Nat.beq o o1 with
  |false=>rw[hb]at hc;cases hc
  | true =>
   rw[hb,cond_true]at hc;have:=Nat.eq_of_beq_eq_true hb;subst this;obtain⟨cs,c1,c2,c3,c4⟩:=vh IH m gs fs _ n h4 hc (fun x hx=>hg x (by simp[hx])) hn (fun g' hg'=>ht g' (by simp[hg']));obtain⟨x,hx⟩:=ht g (by simp);rw[h1,h2]at hx;have hgt:=hg (o,t1) (by simp);obtain⟨ds,d1,d2,d3,d4⟩:=IH t1 hgt m _ x hx;have hcell:Γ.P.cellsOf t1=szT Γ.T t1:=by
    cases hl:aY Γ.T t1 with
    |none=>cases f<;>simp[mS,hl]at hgt
    |some ti=>obtain⟨fa⟩:=Γ.ty hl;rw[mG fa,DI hl]
   rw[hcell]at d1 d3;have hds:ds.length=szT Γ.T t1:=by rw[d1];simp;omega
   refine⟨ds++cs,by simp[hds];omega,fun c hc=>by rcases List.mem_append.1 hc with h|h;exact d2 c h;exact c2 c h,fun i c hc=>?_,fun o' t' hm=>?_⟩
   ·rcases Nat.lt_or_ge i ds.length with hl|hl
    ·rw[List.getElem?_append_left hl]at hc;have:=d3 i c hc;have e:gv ((vs.drop o).take (szT Γ.T t1)) i=gv vs (o+i):=by
      simp only[gv,List.getD,li];rw[if_pos (by omega)]
     rwa [e]at this
    ·rw[List.getElem?_append_right hl]at hc;have:=c3 _ c hc;have e:o+szT Γ.T t1+(i-ds.length)=o+i:=by omega
     rwa [e]at this
   ·rcases List.mem_cons.1 hm with h|h
    ·cases h;refine⟨Nat.le_refl _,?_⟩;rw[Nat.sub_self,List.drop_zero,←hds,List.take_left];exact d4
    ·obtain⟨e1,e2⟩:=c4 o' t' h;refine⟨by omega,?_⟩;have e:(ds++cs).drop (o'-o)=cs.drop (o'-(o+szT Γ.T t1)):=by
      rw[List.drop_append,List.drop_eq_nil_of_le (by omega),List.nil_append];congr 1;omega
     rw[e];exact e2
theorem DF{f e sz:Nat}{b o:Nat}{T:List (Nat×TI)}{imm:Nat→List Value}(hag:agT T e=true∨sz=1)(n:Nat)(h:∀i,i<n→∃us cs,us.length=sz∧o+i*sz+sz≤(imm b).length∧(∀j,j<sz→gv (imm b) (o+i*sz+j)=gv us j)∧Told T imm f e us cs):
  ∃es:List D,es.length=n∧∀(i:Nat) (x:D),es[i]?=some x→o+i*sz+sz≤(imm b).length∧x.cells.length=sz∧(∀c∈x.cells,c.one=true)∧(∀(j:Nat) (c:D),x.cells[j]?=some c→DRel imm (gv (imm b) (o+i*sz+j)) c) ∧
   TyC T f e x.cells∧(agT T e=true→∃l,x = .agg l):=by
 induction n with
 |zero=>exact⟨[],rfl,fun i x h=>by simp at h⟩
 | succ n ih =>
  obtain⟨es,e1,e2⟩:=ih (fun i hi=>h i (by omega));obtain⟨us,cs,u1,u2,u3,t1,t2,t3,t4⟩:=h n (by omega);have key:∃x:D,x.cells=cs∧(agT T e=true→∃l,x = .agg l):=by
   rcases hag with ha|ha
   ·exact⟨.agg cs,rfl,fun _=>⟨_,rfl⟩⟩
   ·cases hq:agT T e with
    |true=>exact⟨.agg cs,rfl,fun _=>⟨_,rfl⟩⟩
    | false =>
     match cs,t1,t2 with
     |[c],_,t2 =>
      refine⟨c,?_,fun h=>by cases h⟩;have:=t2 c (by simp);cases c<;>first|rfl|(simp[D.one]at this)
     |[],t1,_=>simp[u1,ha]at t1
     |_::_::_,t1,_=>simp[u1,ha]at t1
  obtain⟨x,hx,hxa⟩:=key;refine⟨es++[x],by simp[e1],fun i y hy=>?_⟩;rcases Nat.lt_or_ge i es.length with hl|hl
  ·rw[List.getElem?_append_left hl]at hy;exact e2 i y hy
  ·rw[List.getElem?_append_right hl]at hy;have hi:i=n:=by have:=aI hy;simp at this;omega
   subst hi;rw[e1,Nat.sub_self]at hy;simp at hy;subst hy;rw[hx];refine⟨u2,by omega,t2,fun j c hc=>?_,t4,hxa⟩;rw[u3 j (by have:=aI hc;omega)];exact t3 j c hc
theorem qA:∀(f t:Nat),mS Γ.T f t=true→∀(fuel:Nat) (us:List Value) x,DataW.trod enc Γ.P W base spare held fuel t us=some x→∃cs,Told Γ.T (immOf W) f t us cs
 |0,_,h,_,_,_,_=>by simp[mS]at h
 | f + 1, t, hg, fuel, us, x, hx => by
  simp only[mS]at hg;cases hl:aY Γ.T t with
  |none=>simp[hl]at hg
  | some ti =>
   rw[hl]at hg;simp only at hg;obtain⟨fa⟩:=Γ.ty hl;cases hs:ti.sh with
   |other=>simp[hs]at hg
   |map _ _=>simp[hs]at hg
   |ptr _=>simp[hs]at hg
   | bool =>
    obtain⟨b,rfl,_⟩:=DataW.trod_bool (pJ fa hs) hx;exact⟨[.bool b],rfl,by simp[D.one],fun i c hc=>by
     match i,hc with
     |0,hc=>simp at hc;subst hc;exact .bool b
     |n+1,hc=>simp at hc,by simp only[TyC,hl,hs];exact⟨b,rfl⟩⟩
   | int k =>
    obtain⟨n,rfl,_,hw⟩:=DataW.trod_int (kX fa hs) hx;exact⟨[.int k n],rfl,by simp[D.one],fun i c hc=>by
     match i,hc with
     |0,hc=>simp at hc;subst hc;exact .int k n
     |n+1,hc=>simp at hc,by simp only[TyC,hl,hs];exact⟨n,rfl,hw⟩⟩
   | str =>
    obtain⟨s,rfl,_,hw⟩:=DataW.trod_string (gG fa hs) hx;exact⟨[.str s.data.toList],rfl,by simp[D.one],fun i c hc=>by
     match i,hc with
     |0,hc=>simp at hc;subst hc;exact .str s
     |n+1,hc=>simp at hc,by simp only[TyC,hl,hs];exact⟨_,rfl,by rw[Array.length_toList];exact hw⟩⟩
   | struct fs =>
    rw[hs]at hg;simp only[Bool.and_eq_true,List.all_eq_true]at hg;obtain⟨⟨h0,h1⟩,h2⟩:=hg;obtain⟨gs,g1,g2⟩:=oz fa hs;obtain⟨xs,m,rfl,rfl,hlen,hxl,hxs⟩:=DataW.trod_struct g1 hx;rw[mG fa]at hlen;cases hc:uM Γ.T 0 fs with
    |none=>rw[hc]at h1;cases h1
    | some n =>
     rw[hc]at h1;have hn:=Nat.eq_of_beq_eq_true h1
     obtain⟨cs,c1,c2,c3,c4⟩:=vh (vs:=us) (fun t' ht' fuel' us' x' hx'=>qA f t' ht' fuel' us' x' hx') m gs.toList fs 0 n g2 hc h2 (by omega) (fun g hg=>by
      obtain⟨i,hi⟩:=List.getElem?_of_mem hg;have:=hxs i g (by simpa using hi);have hlt:=aI hi;rw[this]
      exact⟨xs[i]'(by simp at hlt;omega),by simp⟩)
     refine⟨cs,by omega,c2,fun i c hc=>by simpa using c3 i c hc,?_⟩;simp only[TyC,hl,hs];exact⟨by omega,fun o' t' hm=>by simpa using (c4 o' t' hm).2⟩
   | array n e =>
    rw[hs]at hg;simp only[Bool.and_eq_true]at hg;obtain⟨⟨h0,h1⟩,h2⟩:=hg;have hn:=Nat.eq_of_beq_eq_true h1;obtain⟨xs,m,rfl,rfl,hlen,hxl,hxs⟩:=DataW.trod_array (lT fa hs) hx;rw[mG fa]at hlen;have hcell:Γ.P.cellsOf e=szT Γ.T e:=by
     cases hl':aY Γ.T e with
     |none=>cases f<;>simp[mS,hl']at h2
     |some te=>obtain⟨fe⟩:=Γ.ty hl';rw[mG fe,DI hl']
    rw[hcell]at hxs
    obtain⟨cs,c1,c2,c3,c4⟩:=GH (T:=Γ.T) (imm:=immOf W) (f:=f) (e:=e) (sz:=szT Γ.T e) (vs:=us) n (by omega) (fun i hi=>by
     have:=hxs i hi;have:DataW.trod enc Γ.P W base spare held m e ((us.drop (i*szT Γ.T e)).take (szT Γ.T e))=some (xs[i]'(by omega)):=by rw[this];simp[hxl,hi]
     exact qA f e h2 m _ _ this)
    refine⟨cs,by omega,c2,c3,?_⟩;simp only[TyC,hl,hs];exact⟨by omega,c4⟩
   | slice e =>
    rw[hs]at hg;simp only[Bool.and_eq_true,Bool.or_eq_true]at hg;obtain⟨⟨h2,h3⟩,h4⟩:=hg;have hsz:=Nat.le_of_ble_eq_true h4;have hcell:Γ.P.cellsOf e=szT Γ.T e:=by
     cases hl':aY Γ.T e with
     |none=>cases f<;>simp[mS,hl']at h2
     |some te=>obtain⟨fe⟩:=Γ.ty hl';rw[mG fe,DI hl']
    rcases DataW.trod_slice (cQ fa hs) hx with⟨rfl,_⟩|⟨a,len,cap,elems,rest,m,rfl,rfl,rfl,hb,hlc,hcm,hlen,hel,_⟩
    ·exact⟨[.aU],rfl,by simp[D.one],fun i c hc=>by
      match i,hc with
      |0,hc=>simp at hc;subst hc;exact .aU
      |n+1,hc=>simp at hc,by simp only[TyC,hl,hs];exact .inl trivial⟩
    ·rw[hcell]at hel;have tel:∀i,i<len→∃us,W.cells? base (a.add (i*szT Γ.T e)) (szT Γ.T e)=some us∧∃y,DataW.trod enc Γ.P W base spare held m e us=some y:=fun i hi=>by
      have:=hel i hi;rw[List.getElem?_eq_getElem (by omega)]at this;obtain⟨us,h1,h2⟩:=Option.bind_eq_some_iff.1 this;exact⟨us,h1,_,h2⟩
     have mk1:∀(d:D),d.one=true→DRel (immOf W) (.slice (some a) len cap) d→TyC Γ.T (f+1) t [d]→∃cs,Told Γ.T (immOf W) (f+1) t [.slice (some a) len cap] cs:=fun d h1 h2 h3 =>
      ⟨[d],rfl,by simpa using h1,fun i c hc=>by
       match i,hc with
       |0,hc=>simp at hc;subst hc;exact h2
       |n+1,hc=>simp at hc,h3⟩
     rcases Nat.eq_zero_or_pos len with h0|hpos
     ·subst h0;exact mk1 (.sl (szT Γ.T e) []) rfl (.sl0 (some a) cap _) (by simp only[TyC,hl,hs];exact .inr ⟨[],rfl,by simp,by simp⟩)
     ·obtain⟨u0,c0,y0,ty0⟩:=tel 0 hpos;obtain⟨blk,off,spot⟩:=a;have hspot:spot=none:=by
       have h:=(World.cells?_some c0).2.2 0 hsz;have hl0:=(World.cells?_some c0).2.1;rw[List.getElem?_eq_getElem (by omega)]at h;have:=World.cell?_spot h;simpa[Addr.add]using this
      subst hspot;have hc3:agT Γ.T e=true∨szT Γ.T e=1:=by
       rcases h3 with h|h
       ·exact .inl h
       ·exact .inr (Nat.eq_of_beq_eq_true h)
      obtain⟨es,e1,e2⟩:=DF (T:=Γ.T) (imm:=immOf W) (f:=f) (e:=e) (sz:=szT Γ.T e) (b:=blk) (o:=off) hc3 len (fun i hi=>by
       obtain⟨us,h1,y,hy⟩:=tel i hi;obtain⟨_,hul,hcl⟩:=World.cells?_some h1;obtain⟨cs,hcs⟩:=qA f e h2 m _ _ hy;have cell:∀j,j<szT Γ.T e→off+i*szT Γ.T e+j<(immOf W blk).length∧gv (immOf W blk) (off+i*szT Γ.T e+j)=gv us j:=fun j hj=>by
        have:=hcl j hj;rw[Addr.add_lit,Addr.add_lit,List.getElem?_eq_getElem (by omega)]at this;have h:=qh this;exact⟨h.1,by rw[h.2];simp[gv,List.getD,hul,hj]⟩
       refine⟨us,cs,hul,?_,fun j hj=>(cell j hj).2,hcs⟩;have:=(cell (szT Γ.T e-1) (by omega)).1
       omega)
      have hin:off+es.length*szT Γ.T e≤(immOf W blk).length:=by
       have hlt:len-1<es.length:=by omega
       have:=(e2 (len-1) es[len-1] (by simp[hlt])).1;rw[e1];have e3:len*szT Γ.T e=(len-1)*szT Γ.T e+szT Γ.T e:=by rw[←Nat.succ_mul];congr 1;omega
       omega
      have el:∀x∈es,x.cells.length=szT Γ.T e∧(∀c∈x.cells,c.one=true)∧TyC Γ.T f e x.cells∧(agT Γ.T e=true→∃l,x = .agg l):=fun x hx=>by
       obtain⟨i,hi⟩:=List.getElem?_of_mem hx;have:=e2 i x hi;exact⟨this.2.1,this.2.2.1,this.2.2.2.2⟩
      refine mk1 (.sl (szT Γ.T e) es) rfl ?_ ?_
      ·subst e1;exact .sl blk off cap (szT Γ.T e) es (by intro h;simp[h]at hpos) hlc (fun x hx=>(el x hx).1) (fun x hx=>(el x hx).2.1) hin (fun i x j c hx hc=>(e2 i x hx).2.2.2.1 j c hc)
      ·simp only[TyC,hl,hs];exact .inr ⟨es,rfl,by rw[e1];exact Nat.le_trans hlc hcm,fun x hx=>(el x hx).2.2⟩
theorem Ak{P:Program}{w:World}{r:Reach}{b0 t n e:Nat}{v:Value}(ht:P.underlying t=some (.array n e))(h:Value.okWide P w r b0 t v):∃cs,v = .agg cs:=by
 simp only[Value.okWide,ht]at h;obtain⟨cs,h1,_⟩:=h;exact⟨cs,h1⟩
theorem trod_val{f t:Nat}{b0:Nat}{r:Reach}(hg:mS Γ.T f t=true){v:Value}{d:DataW H}{ps:List MemPlace}(hv:Value.okWide Γ.P W r b0 t v)(h:DataW.Trod enc Γ.P W base spare held t v d ps):
  ∃x:D,DRel (immOf W) v x∧TyV Γ.T f t x:=by
 obtain⟨fuel,h⟩:=h;obtain⟨cs,c1,c2,c3,c4⟩:=qA f t hg fuel _ _ h;cases f with
 |zero=>simp[mS]at hg
 | succ f =>
  simp only[mS]at hg;cases hl:aY Γ.T t with
  |none=>simp[hl]at hg
  | some ti =>
   rw[hl]at hg;simp only at hg;obtain⟨fa⟩:=Γ.ty hl;have agg:(∃vs,v = .agg vs)→∃x:D,DRel (immOf W) v x∧TyV Γ.T (f+1) t x:=by
    rintro ⟨vs,rfl⟩;exact⟨.agg cs, .agg vs cs (by simpa[Value.cells]using c1.symm) c2 c3,c4,fun _=>⟨cs,rfl⟩⟩
   have one:v.cells=#[v]→ti.agg=false→(∃c,cs=[c])→∃x:D,DRel (immOf W) v x∧TyV Γ.T (f+1) t x:=by
    rintro hv1 ha ⟨c,rfl⟩;have h1:=c2 c (by simp);have hr:=c3 0 c rfl;rw[hv1]at hr;have hcc:c.cells=[c]:=by cases c<;>first|rfl|(simp[D.one]at h1)
    exact⟨c,by simpa[gv]using hr,by rw[hcc];exact c4,fun h=>by simp[agT,hl,ha]at h⟩
   have nag:AA (Γ.P.underlying t)=false→ti.agg=false:=fun h=>by
    have:=fa.agg;rw[←fa.und,h]at this;exact this.symm
   cases hs:ti.sh with
   |other=>simp[hs]at hg
   |map _ _=>simp[hs]at hg
   |ptr _=>simp[hs]at hg
   |bool =>
    obtain⟨b,rfl⟩:=okWide_bool (pJ fa hs) hv;simp only[TyC,hl,hs]at c4;obtain⟨b',rfl⟩:=c4;exact one rfl (nag (by rw[pJ fa hs];rfl)) ⟨_,rfl⟩
   |int k =>
    obtain⟨n,rfl⟩:=okWide_int (kX fa hs) hv;have c4':=c4;simp only[TyC,hl,hs]at c4';obtain⟨n',rfl,_⟩:=c4';exact one rfl (nag (by rw[kX fa hs];rfl)) ⟨_,rfl⟩
   |str =>
    obtain⟨n,rfl⟩:=okWide_string (gG fa hs) hv;have c4':=c4;simp only[TyC,hl,hs]at c4';obtain⟨n',rfl,_⟩:=c4';exact one rfl (nag (by rw[gG fa hs];rfl)) ⟨_,rfl⟩
   |slice e =>
    obtain⟨a,n,m,rfl⟩:=okWide_slice (cQ fa hs) hv;have c4':=c4;simp only[TyC,hl,hs]at c4';rcases c4' with rfl|⟨es,rfl,_⟩
    ·exact one rfl (nag (by rw[cQ fa hs];rfl)) ⟨_,rfl⟩
    ·exact one rfl (nag (by rw[cQ fa hs];rfl)) ⟨_,rfl⟩
   |struct fs =>
    obtain⟨gs,g1,g2⟩:=oz fa hs;obtain⟨vs,rfl,_⟩:=okWide_struct g1 hv;exact agg ⟨vs,rfl⟩
   |array n e =>
    have hf:=hv;have hu:=lT fa hs;exact agg (Ak hu hv)
end
end
section
open Go Go.RowKit
theorem bM.made{gl:List (Nat×List D)}{G:aO}{H:List aN}{w:World}(hW:bM gl G H w){e sz cap n:Nat}{cur:Array Value}{xs:List Value}(hsz:cur.size=cap*sz)(hn:n≤cap)(hc:cap≤maxLen)
  (hx:cur.toList.take (n*sz)=xs) :
  GLe H.length G (G.app H.length n (.slice (some ⟨w.heap.size,0,none⟩) n cap) xs)∧bM gl (G.app H.length n (.slice (some ⟨w.heap.size,0,none⟩) n cap) xs) (H++[.front e sz n]) (w.alloc (.cells cur e)):=by
 have hlen:xs.length=n*sz:=by
  have:n*sz≤cap*sz:=Nat.mul_le_mul_right _ hn;rw[←hx,List.length_take,Array.length_toList,hsz];omega
 have hown':(w.alloc (.cells cur e)).ownsRow 0 e sz (.slice (some ⟨w.heap.size,0,none⟩) n cap) n xs :=
  ⟨hlen, .inr ⟨_,_,_,rfl,Nat.zero_le _,heap_alloc_new w _,hn,hc,hsz,hx⟩⟩
 have hIm:dR G.imm (G.app H.length n (.slice (some ⟨w.heap.size,0,none⟩) n cap) xs).imm:=fun b=>by
  simp only[aO.app];split
  ·rename_i hb;simp only[Value.ownBlock,Option.some.injEq]at hb;subst hb;rw[jE hW (Nat.le_refl _)];exact List.nil_prefix
  ·exact List.prefix_refl _
 have hle:GLe H.length G (G.app H.length n (.slice (some ⟨w.heap.size,0,none⟩) n cap) xs):=⟨rfl,rfl,rfl,hIm,fun _ _ _ h=>h,fun id k u hid hu=>by
  simp only[aO.app];rw[if_neg (by omega)];exact hu⟩
 have hcells:∀i,i<xs.length→(w.alloc (.cells cur e)).cell? ⟨w.heap.size,i,none⟩=some (gv xs i):=fun i hi=>by
  have:=hown'.cells (g:=w.heap.size) rfl i (gv xs i) (jm hi)
  rwa [addr_add,Nat.zero_add]at this
 refine⟨hle,hW.step (w':=w.alloc (.cells cur e)) hle rfl rfl rfl (by simp) H.length (.front e sz n) (H++[.front e sz n]) (by simp) (by simp) (fun id hne=>?_) ?_ ?_ ?_ ?_ ?_ ?_⟩
 ·rcases Nat.lt_or_ge id H.length with h|h
  ·rw[List.getElem?_append_left h]
  ·rw[List.getElem?_eq_none (by simp;omega),List.getElem?_eq_none h]
 ·intro id _ hne k;simp only[aO.app];rw[if_neg (fun h=>hne h.1)]
 ·intro b hb _;refine⟨heap_alloc_old w _ hb,?_⟩;simp only[aO.app];rw[if_neg (by simp[Value.ownBlock];omega)]
 ·intro b hb i hi;simp only[aO.app]at hi ⊢;by_cases hbs:b=w.heap.size
  ·subst hbs;rw[if_pos (by simp[Value.ownBlock])]at hi ⊢;exact hcells i hi
  ·rw[if_neg (by simp[Value.ownBlock];omega)]at hi ⊢;rcases hb with hb|⟨oj,o1,o2⟩
   ·rw[jE hW hb]at hi;simp at hi
   ·rw[List.getElem?_eq_none (Nat.le_refl _)]at o1;cases o1
 ·exact⟨_,xs,by simp[aO.app],hown',fun b hb=>by simp[aO.app,hb],fun k hk=>by
   simp only[aO.app];rw[if_neg (by omega)];exact (hW.lim _ (Nat.le_refl _)).2 k⟩
 ·rintro b ⟨u,u1,u2⟩;simp only[aO.app,and_self,if_true,Option.some.injEq]at u1;subst u1;simp only[Value.ownBlock,Option.some.injEq]at u2;exact .inl (by omega)
 ·intro id hid;obtain⟨l1,l2⟩:=hW.lim id (by simp at hid;omega);refine⟨l1,fun q=>?_⟩;simp only[aO.app];rw[if_neg (by simp at hid;omega)];exact l2 q
def zD(te:TI):D:=bif te.agg then .agg te.zero else te.zero.headD .top
theorem yl(z:Array Value)(m i:Nat)(hi:i<m):gv (madeCells z m).toList i=z[i%z.size]! := by
 simp[gv,madeCells,List.getD,hi]
theorem Ig{P:Program}{t:Nat}{te:TI}(f:dQ P t te):(zD te).cells=te.zero:=by
 unfold zD;cases ha:te.agg with
 |true=>rfl
 | false =>
  have h1:=f.zlen;rw[f.one ha]at h1;have hz:=(iq (imm:=fun _=>[]) f.zok).2.1
  match hq:te.zero,h1 with
  |[c],_ =>
   have:=hz c (by simp[hq]);simp only[cond_false,List.headD_cons];cases c<;>first|rfl|(simp[D.one]at this)
theorem CH{P:Program}{imm:Nat→List Value}{t:Nat}{te:TI}(f:dQ P t te)(n cap:Nat)(hn:n≤cap):
  d9 imm te.size (List.replicate n (zD te)) ((madeCells f.z.cells (cap*te.size)).toList.take (n*te.size)):=by
 obtain⟨z1,z2,z3⟩:=iq (imm:=imm) f.zok;have hzs:f.z.cells.size=te.size:=by rw[f.zlen]at z1;simpa using z1
 have hle:n*te.size≤cap*te.size:=Nat.mul_le_mul_right _ hn;have hc:=Ig f;refine⟨by simp only[List.length_take,Array.length_toList,size_madeCells,List.length_replicate];omega,fun e he=>?_,fun e he=>?_,fun i e j c hi hj=>?_⟩
 ·rw[List.eq_of_mem_replicate he,hc,f.zlen]
 ·rw[List.eq_of_mem_replicate he,hc];exact z2
 ·have hin:=aI hi;rw[List.length_replicate]at hin;have he:=List.eq_of_mem_replicate (List.mem_of_getElem? hi);rw[he,hc]at hj;have hjl:j<te.size:=by rw[←f.zlen];exact aI hj
  have hk:=oO hin hjl;have e1:gv ((madeCells f.z.cells (cap*te.size)).toList.take (n*te.size)) (i*te.size+j)=gv f.z.cells.toList j:=by
   have e2:gv ((madeCells f.z.cells (cap*te.size)).toList.take (n*te.size)) (i*te.size+j)=gv (madeCells f.z.cells (cap*te.size)).toList (i*te.size+j):=by
    simp only[gv,List.getD,List.getElem?_take];rw[if_pos hk]
   have hk2:i*te.size+j<cap*te.size:=Nat.lt_of_lt_of_le hk hle;rw[e2,yl _ _ _ hk2,hzs,Nat.mul_comm,Nat.mul_add_mod,Nat.mod_eq_of_lt hjl];have:j<f.z.cells.size:=by omega
   simp[gv,List.getD,this]
  rw[e1];exact z3 j c hj
section
variable {Γ:Ctx}{nt n0:Nat}{k:List It}{Q:Post}{env:Env}{H:List aN}
theorem aa.FT{all:Array Oper}{o:Oper}{l:List Oper}{t T e:Nat}{te ti:TI}{x y:Operand}{kl kc:IntKind}{n c:Int}(hop:o.op = .makeSlice T x y)(hg:o.guard=none)(hd:o.dst=some t)(ht:Nat.ble (t+1) nt=true)
  (hT:aY Γ.T T=some ti) (hsh:ti.sh = .slice e) (hE:aY Γ.T e=some te) (hx:ev Γ env x = .d (.int kl n)) (hy:ev Γ env y = .d (.int kc c)) (hlim:(0≤n∧n≤c)∧(te.bytes:Int)*c≤281474976710656∧c≤9223372036854775807)
  (h:aa Γ nt n0 (.ops all l::k) Q ((t, .own te.size (List.replicate n.toNat (zD te)) H.length)::env) (H++[.front e te.size n.toNat])):aa Γ nt n0 (.ops all (o::l)::k) Q env H :=
 fun G0 G a w h0 hl hF hdf hW=>by
  obtain⟨f⟩:=Γ.ty hT;obtain⟨fe⟩:=Γ.ty hE;have e1:=bN hW hF x;rw[hx]at e1;have v1:=e1.cT;have e2:=bN hW hF y;rw[hy]at e2;have v2:=e2.cT;have hr:=run_make (P:=Γ.P) w T e fe.i fe.z (cQ f hsh) fe.info fe.hz kl kc n c hlim.1.1 hlim.1.2 (by rw[fe.bytes];exact hlim.2.1) hlim.2.2;rw[fe.size]at hr;have hnc:n.toNat≤c.toNat:=by omega
  obtain⟨g1,g2⟩:=hW.made (e:=e) (sz:=te.size) (cap:=c.toNat) (n:=n.toNat) (cur:=madeCells fe.z.cells (c.toNat*te.size)) (size_madeCells _ _) hnc (by simp only[maxLen];omega) rfl;have hrr:=CH (imm:=(G.app H.length n.toNat (.slice (some ⟨w.heap.size,0,none⟩) n.toNat c.toNat) ((madeCells fe.z.cells (c.toNat*te.size)).toList.take (n.toNat*te.size))).imm) fe n.toNat c.toNat hnc;have hv:bA (G.app H.length n.toNat (.slice (some ⟨w.heap.size,0,none⟩) n.toNat c.toNat) ((madeCells fe.z.cells (c.toNat*te.size)).toList.take (n.toNat*te.size))) (.slice (some ⟨w.heap.size,0,none⟩) n.toNat c.toNat) (.own te.size (List.replicate n.toNat (zD te)) H.length):=by
   refine .own _ _ _ _ (by simp[aO.app]) ?_;have:=hrr.Qu (b:=w.heap.size) (cap:=c.toNat) (by simp[aO.app,Value.ownBlock]) (by simpa using hnc)
   rwa [List.length_replicate]at this
  have hn:=h G0 _ (a.put (some t) (.slice (some ⟨w.heap.size,0,none⟩) n.toNat c.toNat)) _ (h0.trans (g1.weaken hl)) (by simp;omega) ((hF.up g1 hW.lim).put ht hv) (by simp[Act.put,hdf]) g2;simp only[aZ]at hn ⊢;unfold wpList;rw[if_pos (ba hg)];refine .inl ?_;have hr':(execOp a.eval o).run Γ.P w = .ok (.value (.slice (some ⟨w.heap.size,0,none⟩) n.toNat c.toNat)) (w.alloc (.cells (madeCells fe.z.cells (c.toNat*te.size)) e)):=by
   unfold execOp;simp[hop,v1,v2,hr]
  unfold Oper.wp;rw[hr'];simp only[Oper.upon,hd];exact hn
end
end
section
open Go Go.RowKit
section
variable {Γ:Ctx}{nt n0:Nat}{k:List It}{Q:Post}{env:Env}{H:List aN}{G:aO}{w:World}
theorem aa.Sm{id:Nat}{all:Array Oper}(l:List Oper)(hl:all=l.toArray)(_he:l.any (fun o=>Gg o.op)=false)(hB:Region.lexB .any l.toArray=true)(h:aa Γ nt n0 (.qops all l::k) Q env H):
  aa Γ nt n0 (.code (.region id all true)::k) Q env H:=aa.draw l hl hB h
theorem aa.aV{id:Nat}{all:Array Oper}{l:List Oper}(h:aa Γ nt n0 (.qops all l::k) Q env H)(hl:all=l.toArray:=by rfl)(_he:l.any (fun o=>Gg o.op)=false:=by rfl)(hB:Region.lexB .any l.toArray=true:=by decide +kernel):aa Γ nt n0 (.code (.region id all true)::k) Q env H:=aa.Sm l hl _he hB h
theorem aa.Pv{fn:Func}{R:AV→List aN→Prop}{r:AV}{I:Nat→Env→List aN→Prop}{n:Nat}{K:List It}(hr:gy Γ env H fn.results.toList=some r)(hl:Nat.ble n0 H.length=true)(hb:r.bnd n0=true)
  (ho:dZ n0 (H.take n0)=true) (h:R r (H.take n0)):aa Γ nt n0 (.code .ret::k) (fK Γ nt n0 I n K (qY Γ fn n0 R)) env H:=aa.ret (Q:=fK Γ nt n0 I n K (qY Γ fn n0 R)) (Fin.mk' hr (cJ.refl _) hl hb ho h)
theorem aa.aP{fn:Func}{R:AV→List aN→Prop}{r:AV}{I:Nat→Env→List aN→Prop}{n:Nat}{K:List It}(h:R r (H.take n0))(hr:gy Γ env H fn.results.toList=some r:=by rfl)(hl:Nat.ble n0 H.length=true:=by rfl)(hb:r.bnd n0=true:=by rfl)(ho:dZ n0 (H.take n0)=true:=by rfl):aa Γ nt n0 (.code .ret::k) (fK Γ nt n0 I n K (qY Γ fn n0 R)) env H:=aa.Pv hr hl hb ho h
theorem aa.Rt{fn:Func}{R:AV→List aN→Prop}{r:AV}{I I':Nat→Env→List aN→Prop}{n n':Nat}{K K':List It}(hr:gy Γ env H fn.results.toList=some r)(hl:Nat.ble n0 H.length=true)(hb:r.bnd n0=true)
  (ho:dZ n0 (H.take n0)=true) (h:R r (H.take n0)):aa Γ nt n0 (.code .ret::k) (fK Γ nt n0 I n K (fK Γ nt n0 I' n' K' (qY Γ fn n0 R))) env H :=
 aa.ret (Q:=fK Γ nt n0 I n K (fK Γ nt n0 I' n' K' (qY Γ fn n0 R))) (Fin.mk' hr (cJ.refl _) hl hb ho h)
theorem aa.kZ{fn:Func}{R:AV→List aN→Prop}{r:AV}{I I':Nat→Env→List aN→Prop}{n n':Nat}{K K':List It}(h:R r (H.take n0))(hr:gy Γ env H fn.results.toList=some r:=by rfl)(hl:Nat.ble n0 H.length=true:=by rfl)(hb:r.bnd n0=true:=by rfl)(ho:dZ n0 (H.take n0)=true:=by rfl):aa Γ nt n0 (.code .ret::k) (fK Γ nt n0 I n K (fK Γ nt n0 I' n' K' (qY Γ fn n0 R))) env H:=aa.Rt hr hl hb ho h
theorem aa.PP{I:Nat→Env→List aN→Prop}{n id:Nat}{K K':List It}(hu:unwind id k=none)(hK:unwind id K=some K')(h:aa Γ nt n0 K' Q env H):aa Γ nt n0 (.code (.exit id)::k) (fK Γ nt n0 I n K Q) env H :=
 aa.out hu ⟨_,hK,h⟩
theorem aa.aJ{I:Nat→Env→List aN→Prop}{n id:Nat}{K K':List It}(h:aa Γ nt n0 K' Q env H)(hu:unwind id k=none:=by rfl)(hK:unwind id K=some K':=by rfl):aa Γ nt n0 (.code (.exit id)::k) (fK Γ nt n0 I n K Q) env H:=aa.PP hu hK h
theorem aa.round{I:Nat→Env→List aN→Prop}{n:Nat}{K:List It}(env':Env)(m':Nat)(hlt:m'<n)(he:je env env')(hI:I m' env' H):aa Γ nt n0 [] (fK Γ nt n0 I n K Q) env H :=
 aa.done (Q:=fK Γ nt n0 I n K Q) ⟨env',m',hlt,he,hI⟩
theorem BP{o:Oper}{T id off:Nat}{ti:TI}{x:Operand}{cs:List AV}{v:AV}(hop:o.op = .load T x)(hT:aY Γ.T T=some ti)(ha:ti.agg=false)(hx:ev Γ env x = .ptr id off)(hh:hget H id=some (.cells cs))(hv:cs[off]?=some v):
  eu Γ nt env H o v:=by
 intro G a w hW hF;have hq:qop Γ true (.load T x) env H=some (True,v):=by
  simp only[qop,hT,hx,hh,vu,ha,cond_false,hv,jP]
 exact pU (o:=o) hW hF (nn:=true) (c:=True) (v:=v) (by rw[hop];exact hq) trivial
theorem aa.RY{all:Array Oper}{o:Oper}{l:List Oper}{t T id off:Nat}{ti:TI}{x:Operand}{cs:List AV}{v:AV}(hop:o.op = .load T x)(hg:o.guard=none)(hd:o.dst=some t)(ht:Nat.ble (t+1) nt=true)
  (hT:aY Γ.T T=some ti) (ha:ti.agg=false) (hx:ev Γ env x = .ptr id off) (hh:hget H id=some (.cells cs)) (hv:cs[off]?=some v)
  (h:aa Γ nt n0 (.ops all l::k) Q ((t,v)::env) H):aa Γ nt n0 (.ops all (o::l)::k) Q env H :=
 aa.opx (BP hop hT ha hx hh hv) hg hd ht h
theorem wW{o:Oper}{t:Nat}{ti:TI}{x:Operand}{cs:List D}{v:D}(hop:o.op = .load t x)(hT:aY Γ.T t=some ti)(ha:ti.agg=false)(hx:ev Γ env x = .d (.iptr cs))(hv:cs[0]?=some v):eu Γ nt env H o (.d v):=by
 intro G a w hW hF;have hq:qop Γ true (.load t x) env H=some (True, .d v):=by
  simp only[qop,hT,hx,kC,ha,cond_false,hv]
 have:=pU (o:=o) hW hF (nn:=true) (c:=True) (v := .d v) (by rw[hop];exact hq) trivial;exact this
theorem aa.jD{all:Array Oper}{o:Oper}{l:List Oper}{t T:Nat}{ti:TI}{x:Operand}{cs:List D}{v:D}(hop:o.op = .load T x)(hg:o.guard=none)(hd:o.dst=some t)(ht:Nat.ble (t+1) nt=true)
  (hT:aY Γ.T T=some ti) (ha:ti.agg=false) (hx:ev Γ env x = .d (.iptr cs)) (hv:cs[0]?=some v)
  (h:aa Γ nt n0 (.ops all l::k) Q ((t, .d v)::env) H):aa Γ nt n0 (.ops all (o::l)::k) Q env H :=
 aa.opx (wW hop hT ha hx hv) hg hd ht h
theorem aa.wX{all:Array Oper}{o:Oper}{l:List Oper}{t T:Nat}{ti:TI}{x:Operand}{cs:List D}{v:D}(hop:o.op = .load T x)(hg:o.guard=none)(hd:o.dst=some t)(ht:Nat.ble (t+1) nt=true)
  (hT:aY Γ.T T=some ti) (ha:ti.agg=false) (hx:ev Γ env x = .d (.iptr cs)) (hv:cs[0]?=some v)
  (h:aa Γ nt n0 (.qops all l::k) Q ((t, .d v)::env) H):aa Γ nt n0 (.qops all (o::l)::k) Q env H :=
 aa.yj (wW hop hT ha hx hv) hg hd ht h
theorem aa.Pj{all:Array Oper}{o:Oper}{l:List Oper}{T id off:Nat}{x y:Operand}{ti:TI}{v:AV}{cs:List AV}(hop:o.op = .store T x y)(hg:o.guard=none)(hd:o.dst=none)
  (hT:aY Γ.T T=some ti) (hx:ev Γ env x = .ptr id off) (hy':(ev Γ env y).frc=some (True,v)) (hh:hget H id=some (.cells cs)) (hs:ti.size=1) (hv:v.cells=[v]) (ho:v.one=true)
  (hle:off<cs.length) (h:aa Γ nt n0 (.ops all l::k) Q env (H.set id (.cells (cs.set off v)))):aa Γ nt n0 (.ops all (o::l)::k) Q env H:=by
 refine aa.store hop hg hd hT hx hy' hh (by rw[hv,hs];rfl) (by rw[hv];simp[iK,ho]) (by omega) ?_;have e:iN cs off v.cells=cs.set off v:=by
  rw[hv,iN,List.set_eq_take_append_cons_drop,if_pos hle];simp
 rw[e];exact h
theorem ndF{p:Prop}{inst:Decidable p}(h:p):(!decide p)=false:=by rw[decide_eq_true h];rfl
theorem aa.gBT{all:Array Oper}{o:Oper}{l:List Oper}{t j:Nat}{want b:Bool}(hg:o.guard=some (j,want))(hj:(all[j]?).bind (·.dst)=some t)(hb:env.get t = .d (.bool b))(hp:b=true)
  (h:aa Γ nt n0 (.ops all (o::l)::k) Q ((t, .d (.bool true))::env) H):aa Γ nt n0 (.ops all (o::l)::k) Q env H:=aa.pE true hb hp h
theorem aa.fI{all:Array Oper}{o:Oper}{l:List Oper}{t j:Nat}{want b:Bool}(h:aa Γ nt n0 (.ops all (o::l)::k) Q ((t, .d (.bool true))::env) H)(hg:o.guard=some (j,want):=by rfl)(hj:(all[j]?).bind (·.dst)=some t:=by rfl)(hb:env.get t = .d (.bool b):=by rfl)(hp:b=true:=by first|(simp only[bT];omega)):aa Γ nt n0 (.ops all (o::l)::k) Q env H:=aa.gBT hg hj hb hp h
theorem aa.gBF{all:Array Oper}{o:Oper}{l:List Oper}{t j:Nat}{want b:Bool}(hg:o.guard=some (j,want))(hj:(all[j]?).bind (·.dst)=some t)(hb:env.get t = .d (.bool b))(hp:b=false)
  (h:aa Γ nt n0 (.ops all (o::l)::k) Q ((t, .d (.bool false))::env) H):aa Γ nt n0 (.ops all (o::l)::k) Q env H:=aa.pE false hb hp h
theorem aa.eG{all:Array Oper}{o:Oper}{l:List Oper}{t j:Nat}{want b:Bool}(h:aa Γ nt n0 (.ops all (o::l)::k) Q ((t, .d (.bool false))::env) H)(hg:o.guard=some (j,want):=by rfl)(hj:(all[j]?).bind (·.dst)=some t:=by rfl)(hb:env.get t = .d (.bool b):=by rfl)(hp:b=false:=by first|(simp only[bF];omega)|exact ndF rfl):aa Γ nt n0 (.ops all (o::l)::k) Q env H:=aa.gBF hg hj hb hp h
theorem aa.SY{all:Array Oper}{o:Oper}{l:List Oper}{t j:Nat}{want b:Bool}(hg:o.guard=some (j,want))(hj:(all[j]?).bind (·.dst)=some t)(hb:env.get t = .d (.bool b))(hp:b=true)
  (h:aa Γ nt n0 (.qops all (o::l)::k) Q ((t, .d (.bool true))::env) H):aa Γ nt n0 (.qops all (o::l)::k) Q env H:=aa.pE true hb hp h
theorem aa.Jq{all:Array Oper}{o:Oper}{l:List Oper}{t j:Nat}{want b:Bool}(h:aa Γ nt n0 (.qops all (o::l)::k) Q ((t, .d (.bool true))::env) H)(hg:o.guard=some (j,want):=by rfl)(hj:(all[j]?).bind (·.dst)=some t:=by rfl)(hb:env.get t = .d (.bool b):=by rfl)(hp:b=true:=by first|(simp only[bT];omega)):aa Γ nt n0 (.qops all (o::l)::k) Q env H:=aa.SY hg hj hb hp h
theorem aa.SZ{all:Array Oper}{o:Oper}{l:List Oper}{t j:Nat}{want b:Bool}(hg:o.guard=some (j,want))(hj:(all[j]?).bind (·.dst)=some t)(hb:env.get t = .d (.bool b))(hp:b=false)
  (h:aa Γ nt n0 (.qops all (o::l)::k) Q ((t, .d (.bool false))::env) H):aa Γ nt n0 (.qops all (o::l)::k) Q env H:=aa.pE false hb hp h
theorem aa.Jr{all:Array Oper}{o:Oper}{l:List Oper}{t j:Nat}{want b:Bool}(h:aa Γ nt n0 (.qops all (o::l)::k) Q ((t, .d (.bool false))::env) H)(hg:o.guard=some (j,want):=by rfl)(hj:(all[j]?).bind (·.dst)=some t:=by rfl)(hb:env.get t = .d (.bool b):=by rfl)(hp:b=false:=by first|(simp only[bF];omega)|exact ndF rfl):aa Γ nt n0 (.qops all (o::l)::k) Q env H:=aa.SZ hg hj hb hp h
theorem aa.SV{all:Array Oper}{o:Oper}{l:List Oper}{t j:Nat}{want b:Bool}(hg:o.guard=some (j,want))(hj:(all[j]?).bind (·.dst)=some t)(hb:env.get t = .d (.bool b))(hp:b=true)
  (h:aa Γ nt n0 (.sops all (o::l)::k) Q ((t, .d (.bool true))::env) H):aa Γ nt n0 (.sops all (o::l)::k) Q env H:=aa.pE true hb hp h
theorem aa.I6{all:Array Oper}{o:Oper}{l:List Oper}{t j:Nat}{want b:Bool}(h:aa Γ nt n0 (.sops all (o::l)::k) Q ((t, .d (.bool true))::env) H)(hg:o.guard=some (j,want):=by rfl)(hj:(all[j]?).bind (·.dst)=some t:=by rfl)(hb:env.get t = .d (.bool b):=by rfl)(hp:b=true:=by first|(simp only[bT];omega)):aa Γ nt n0 (.sops all (o::l)::k) Q env H:=aa.SV hg hj hb hp h
theorem aa.SW{all:Array Oper}{o:Oper}{l:List Oper}{t j:Nat}{want b:Bool}(hg:o.guard=some (j,want))(hj:(all[j]?).bind (·.dst)=some t)(hb:env.get t = .d (.bool b))(hp:b=false)
  (h:aa Γ nt n0 (.sops all (o::l)::k) Q ((t, .d (.bool false))::env) H):aa Γ nt n0 (.sops all (o::l)::k) Q env H:=aa.pE false hb hp h
theorem aa.I7{all:Array Oper}{o:Oper}{l:List Oper}{t j:Nat}{want b:Bool}(h:aa Γ nt n0 (.sops all (o::l)::k) Q ((t, .d (.bool false))::env) H)(hg:o.guard=some (j,want):=by rfl)(hj:(all[j]?).bind (·.dst)=some t:=by rfl)(hb:env.get t = .d (.bool b):=by rfl)(hp:b=false:=by first|(simp only[bF];omega)|exact ndF rfl):aa Γ nt n0 (.sops all (o::l)::k) Q env H:=aa.SW hg hj hb hp h
theorem aa.kD{c:Operand}{x y:Code}{b:Bool}(hb:ev Γ env c = .d (.bool b))(ht:b=true→aa Γ nt n0 (.code x::k) Q env H)(hf:b=false→aa Γ nt n0 (.code y::k) Q env H):
  aa Γ nt n0 (.code (.cond c x y)::k) Q env H:=aa.cond b hb ht hf
def fgt:AV→AV
 | .own sz es _ => .d (.sl sz es)
 |a=>a
theorem tP(a:AV):cJ a (fgt a):=by
 cases a<;>first|exact cJ.refl _|exact cJ.own _ _ _
theorem aa.OZ{all:Array Oper}{o:Oper}{l:List Oper}{t f:Nat}{args0 args cargs:List AV}{Hc:List aN}{R:AV→List aN→Prop}(ρ:List Nat)
  (hR:ACalls Γ f cargs Hc R) (hg:o.guard=none) (hd:o.dst=some t) (ht:Nat.ble (t+1) nt=true)
  (hcall:eU Γ env o.op=some (f,args0)) (hweak:args0.map fgt=args) (hargs:args=AV.jy ρ cargs) (hab:AV.dF ρ.length cargs=true) (hn:ρ.Nodup) (hp:mi ρ H=some (Hc.map (aN.ren ρ))) (hb:dZ ρ.length Hc=true)
  (h : ∀ r Hc', R r Hc' → Hc.length ≤ Hc'.length → ∃ r' H', r' = AV.ren (names ρ H.length Hc'.length) r ∧ H' = iw ρ (Hc'.map (aN.ren (names ρ H.length Hc'.length))) H ∧
   aa Γ nt n0 (.ops all l::k) Q ((t,r')::env) H'):aa Γ nt n0 (.ops all (o::l)::k) Q env H :=
 fun G0 G a w h0 hl hF hdf hW=>by
  obtain⟨vs,hA0,hrun⟩:=ll hW hF hcall hR.1;have hA:jZ G vs args:=by
   rw[←hweak];refine⟨by simpa using hA0.1,fun i c hc=>?_⟩;rw[List.getElem?_map]at hc;cases hq:args0[i]? with
   |none=>simp[hq]at hc
   |some c0 =>
    simp[hq]at hc;subst hc;exact tP c0 _ _ (hA0.2 i c0 hq)
  obtain⟨p1,p2⟩:=qJ hp;have hlen:Hc.length=ρ.length:=by simpa using p1
  have hlt:∀id∈ρ,id<H.length:=fun id hm=>by
   obtain⟨i,hi⟩:=List.getElem?_of_mem hm;obtain⟨o,_,h2⟩:=p2 i id hi;exact aI h2
  have hWc:=hW.callee hn hp hb;have hAc:jZ (G.callee w H ρ) vs cargs:=by
   subst hargs;rw[dV]at hA;refine⟨by simpa using hA.1,fun i c hc=>?_⟩;exact bA.rE (G:=G) (G':=G.callee w H ρ) (dR.refl G.imm) (fun i id h=>gP h) (fun i id n h=>iI h) c _ (eY hab hc) (hA.2 i _ (by rw[List.getElem?_map,hc];rfl))
  have hcalls:=hR.2 _ w vs hWc hAc;simp only[aZ];unfold wpList;rw[if_pos (ba hg)];refine .inl ?_;unfold Oper.wp;rw[hrun w];refine hcalls.mono ?_;rintro e w' ⟨v,r,Hc',Gc',rfl,hRr,hlen',hle,hv,hWc'⟩;obtain⟨b1,b2,b3,b4,b5⟩:=hW.back hn hlt hlen hlen' hle hWc';obtain⟨r',H',rfl,rfl,hgo⟩:=h r Hc' hRr hlen';have hF':df (G.back Gc' (names ρ H.length Hc'.length)) nt (a.put (some t) v).tmps ((t,AV.ren (names ρ H.length Hc'.length) r)::env) :=
   (hF.up b1 hW.lim).put ht (hv.ren b3 b4 b5)
  have:=hgo G0 _ (a.put (some t) v) w' (h0.trans (b1.weaken hl)) (by rw[ik (by simp;omega)];omega) hF' (by simp[Act.put,hdf]) b2;simp only[aZ]at this;simp only[hd];exact this
theorem aa.QP{all:Array Oper}{o:Oper}{l:List Oper}{t f:Nat}{args0 args:List AV}{X:AV}(hR:ACalls Γ f args [] (fun r H=>r=X∧H=[]))(hg:o.guard=none)(hd:o.dst=some t)(ht:Nat.ble (t+1) nt=true)
  (hcall:eU Γ env o.op=some (f,args0)) (hw:args0.map fgt=args) (hab:AV.dF 0 args=true) (hb:X.bnd 0=true) (h:aa Γ nt n0 (.ops all l::k) Q ((t,X)::env) H):aa Γ nt n0 (.ops all (o::l)::k) Q env H:=by
 refine aa.OZ [] hR hg hd ht hcall hw (nQ _ hab).symm (by simpa using hab) List.nodup_nil rfl rfl ?_;rintro r Hc' ⟨rfl,rfl⟩ _;exact⟨r,H,(mf _ _ hb).symm,by simp[iw],h⟩
theorem aa.De{all:Array Oper}{o:Oper}{l:List Oper}{t f:Nat}{args0 args:List AV}{X:AV}(hR:ACalls Γ f args [] (fun r H=>r=X∧H=[]))(h:aa Γ nt n0 (.ops all l::k) Q ((t,X)::env) H)(hg:o.guard=none:=by rfl)(hd:o.dst=some t:=by rfl)(ht:Nat.ble (t+1) nt=true:=by rfl)(hcall:eU Γ env o.op=some (f,args0):=by rfl)(hw:args0.map fgt=args:=by rfl)(hab:AV.dF 0 args=true:=by rfl)(hb:X.bnd 0=true:=by rfl):aa Γ nt n0 (.ops all (o::l)::k) Q env H:=aa.QP hR hg hd ht hcall hw hab hb h
end
section
open Go Go.RowKit
variable {Γ:Ctx}{nt n0:Nat}{k:List It}{Q:Post}{env:Env}{H:List aN}{G:aO}{w w':World}{a:Act}
theorem aa.xW{all:Array Oper}{o:Oper}{l:List Oper}{t T T2 e id n:Nat}{es es2:List D}{te ti:TI}{s x:Operand}{bb:Prop}(h:bb)(hop:o.op = .call { callee := .builtin .append,args:=#[s,x],argTypes:=#[T,T2] }:=by rfl)(hg:o.guard=none:=by rfl)(hd:o.dst=some t:=by rfl)(ht:Nat.ble (t+1) nt=true:=by rfl)(hT:aY Γ.T T=some ti:=by rfl)(hsh:ti.sh = .slice e:=by rfl)(hE:aY Γ.T e=some te:=by rfl)(hs:ev Γ env s = .own te.size es id:=by rfl)(hh:hget H id=some (.front e te.size n):=by rfl)(hx:DL Γ T2 te.size (ev Γ env x)=some es2:=by rfl)(hpos:Nat.ble 1 te.size=true:=by rfl)(hn:n=es.length:=by (first|rfl|(simp only[List.length_append,List.length_map,List.length_cons,List.length_nil];omega)))(hlim:es.length+es2.length≤140737488355328∧(es.length+es2.length)*te.bytes≤140737488355328:=by (first|(simp only[List.length_append,List.length_map,List.length_cons,List.length_nil];omega)|(rw[hvl];omega)))(hbb:bb→aa Γ nt n0 (.ops all l::k) Q ((t, .own te.size (es++es2) id)::env) (H.set id (.front e te.size (es++es2).length)):=by intro k;simp only[List.set_cons_zero,List.set_cons_succ];exact k):aa Γ nt n0 (.ops all (o::l)::k) Q env H:=aa.append hop hg hd ht hT hsh hE hs hh hx hpos hn hlim (hbb h)
end
end
end Go.Proofs.YtbpednchkndocaaGreatDoor.Av
