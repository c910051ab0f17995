/- Equality of aggregates of plain cells. Regions that draw their order: a step that comes up among others is passed, or reads. Regions that draw their order: once a step has come up that writes, the rest is as in any region. Regions that draw their order: four steps at once; a test that is known. -/
import Derived.Laws.StructEq
import Derived.Test.YtbpednchkndocaaGreatDoorPn4
set_option linter.unusedVariables false
set_option linter.unusedSimpArgs false
set_option maxRecDepth 100000
set_option maxHeartbeats 64000000
namespace Go.Proofs.YtbpednchkndocaaGreatDoor.Av
section
open Go Go.RowKit
def uI(T:List (Nat×TI)):List (Nat×Nat)→List D→List D→Option Bool
 |[],_,_=>some true
 | (o, t) :: r, cs, ds =>
  match aY T t,cs[o]?,ds[o]?,uI T r cs ds with
  |some ti,some (.int k a),some (.int k' b),some rest=>match ti.sh with
   | .int _=>bif decide (k=k') then some (decide (a=b)&&rest) else none
   |_=>none
  |some ti,some (.bool a),some (.bool b),some rest=>match ti.sh with
   | .bool=>some ((a==b)&&rest)
   |_=>none
  |_,_,_,_=>none
def KS (P : Program) (T : Nat) : Bool := !P.eqGuardType P.depth T && (!P.stoodInHeld T && (P.fieldsOf T).toList.all fun f => f.name != "_")
section
variable {Γ:Ctx}{nt n0:Nat}{k:List It}{Q:Post}{env:Env}{H:List aN}
theorem zF{G:aO}{u:Value}{cs:List D}(h:bA G u (.d (.agg cs))):∃vs:Array Value,u = .agg vs ∧
  (∀(i:Nat) (q:IntKind) (n:Int),cs[i]?=some (.int q n)→vs[i]?=some (.int q n))∧(∀(i:Nat) (b:Bool),cs[i]?=some (.bool b)→vs[i]?=some (.bool b)):=by
 cases h with
 | d _ _ h =>
  cases h with
  | agg vs _ hl hone h =>
   refine⟨vs,rfl,fun i q n hx=>?_,fun i b hx=>?_⟩;all_goals
    have hi:=aI hx;have e:vs.toList[i]?=some (gv vs.toList i):=jm (by simp;omega);have:=h i _ hx;rw[Array.getElem?_toList]at e;rw[e];generalize gv vs.toList i=z at this;cases this;rfl
theorem nC(d:Nat)(w:World){vs us:Array Value}{cs ds:List D}(h1:∀(i:Nat) (q:IntKind) (n:Int),cs[i]?=some (.int q n)→vs[i]?=some (.int q n))(h2:∀(i:Nat) (b:Bool),cs[i]?=some (.bool b)→vs[i]?=some (.bool b))
  (k1:∀(i:Nat) (q:IntKind) (n:Int),ds[i]?=some (.int q n)→us[i]?=some (.int q n)) (k2:∀(i:Nat) (b:Bool),ds[i]?=some (.bool b)→us[i]?=some (.bool b)) :
  ∀ (gs : List Field) (fs : List (Nat × Nat)) (b : Bool), eQ Γ.P gs fs = true → (gs.all fun f => f.name != "_") = true → uI Γ.T fs cs ds = some b → (Op.eqFields (d + 1) vs us gs).run Γ.P w = .ok b w
 |[],[],b,_,_,hb=>by
  simp only[uI,Option.some.injEq]at hb;subst hb;simp[Op.eqFields]
 |[],_::_,_,h,_,_=>by simp[eQ]at h
 |_::_,[],_,h,_,_=>by simp[eQ]at h
 | f :: gs, (o, t) :: fs, b, hf, hn, hb => by
  simp only[eQ,Bool.and_eq_true,beq_iff_eq]at hf;obtain⟨⟨⟨rfl,rfl⟩,_⟩,hf⟩:=hf;rw[List.all_cons,Bool.and_eq_true]at hn;obtain⟨hn1,hn⟩:=hn
  have hne : f.name ≠ "_" := by simpa using hn1
  rw[uI]at hb;split at hb
  ·rename_i ti q a q' b' rest e1 e2 e3 e4;split at hb
   ·rename_i q2 hsh;by_cases hq:q=q'
    ·subst hq;rw[decide_eq_true rfl,cond_true]at hb;obtain⟨ft⟩:=Γ.ty e1;have hu:=kX ft hsh;have hp:Γ.P.plainKey f.type=true:=by simp[Program.plainKey,hu]
     have ih:=nC d w h1 h2 k1 k2 gs fs rest hf hn e4;have p1:=run_part_plain (P:=Γ.P) w hp (xs:=vs) (off:=f.offset) (v := .int q a) (h1 _ _ _ e2);have p2:=run_part_plain (P:=Γ.P) w hp (xs:=us) (off:=f.offset) (v := .int q b') (k1 _ _ _ e3);have p3:=run_equalIn_int (P:=Γ.P) w d f.type q q2 a b' hu;cases hb;simp only[Op.eqFields,hne,ne_eq,not_false_eq_true,if_true,Sem.run_bind,p1,p2,p3,Result.andThen_ok];by_cases hab:a=b'
     ·subst hab;simpa using ih
     ·have:(a==b')=false:=by simpa using hab
      rw[this,decide_eq_false hab];simp
    ·rw[decide_eq_false hq,cond_false]at hb;cases hb
   ·cases hb
  ·rename_i ti a b' rest e1 e2 e3 e4;split at hb
   ·rename_i hsh;obtain⟨ft⟩:=Γ.ty e1;have hu:=pJ ft hsh;have hp:Γ.P.plainKey f.type=true:=by simp[Program.plainKey,hu]
    have ih:=nC d w h1 h2 k1 k2 gs fs rest hf hn e4;have p1:=run_part_plain (P:=Γ.P) w hp (xs:=vs) (off:=f.offset) (v := .bool a) (h2 _ _ e2);have p2:=run_part_plain (P:=Γ.P) w hp (xs:=us) (off:=f.offset) (v := .bool b') (k2 _ _ e3);have p3:=run_equalIn_bool (P:=Γ.P) w d f.type a b' hu;cases hb;simp only[Op.eqFields,hne,ne_eq,not_false_eq_true,if_true,Sem.run_bind,p1,p2,p3,Result.andThen_ok];cases hab:(a==b')with
    |true=>simpa using ih
    |false=>simp
   ·cases hb
  ·cases hb
theorem EA{op:BinOp}{T:Nat}{fs:List (Nat×Nat)}{cs ds:List D}{b:Bool}{ti:TI}{x y:Operand}{G:aO}{u v:Value}(hu:bA G u (.d (.agg cs)))(hv:bA G v (.d (.agg ds)))(hT:aY Γ.T T=some ti)(hsh:ti.sh = .struct fs)
  (hb:uI Γ.T fs cs ds=some b) (hk:KS Γ.P T=true) (w:World) :
  (eqGuard op T x y u v).run Γ.P w = .ok () w∧(binOp .eql T u v).run Γ.P w = .ok (.bool b) w∧(binOp .neq T u v).run Γ.P w = .ok (.bool (!b)) w:=by
 obtain⟨vs,rfl,a1,a2⟩:=zF hu;obtain⟨us,rfl,b1,b2⟩:=zF hv;obtain⟨f⟩:=Γ.ty hT;obtain⟨gs,g1,g2⟩:=oz f hsh;simp only[KS,Bool.and_eq_true,Bool.not_eq_true']at hk;obtain⟨e1,e2,e3⟩:=hk;have hfo:Γ.P.fieldsOf T=gs:=by simp[Program.fieldsOf,g1]
 rw[hfo]at e3;have he:(Op.equalIn 10000 T (.agg vs) (.agg us)).run Γ.P w = .ok b w:=by
  rw[show (10000:Nat)=9998+1+1 from rfl,run_equalIn_struct (P:=Γ.P) w (9998+1) T vs us (by rw[hfo];exact g1) e2,hfo];exact nC 9998 w a1 a2 b1 b2 gs.toList fs b g2 e3 hb
 exact⟨run_eqGuard_agg (P:=Γ.P) w op T x y vs us e1,by simp only[run_eql_struct,he,Result.andThen_ok],by simp only[run_neq_struct,he,Result.andThen_ok]⟩
theorem sJ{o:Oper}{T T':Nat}{fs:List (Nat×Nat)}{cs ds:List D}{b:Bool}{ti:TI}{x y:Operand}(hop:o.op = .binOp .neq T x y T')(hx:ev Γ env x = .d (.agg cs))(hy:ev Γ env y = .d (.agg ds))
  (hT:aY Γ.T T=some ti) (hsh:ti.sh = .struct fs) (hb:uI Γ.T fs cs ds=some b) (hk:KS Γ.P T=true):eu Γ nt env H o (.d (.bool (!b))):=by
 intro G a w hW hF;refine⟨_, .d _ _ (.bool _),fun w' hb'=>?_⟩;have e1:=bN hW hF x;have e2:=bN hW hF y;rw[hx]at e1;rw[hy]at e2;obtain⟨g1,_,g2⟩:=EA (op := .neq) (x:=x) (y:=y) e1 e2 hT hsh hb hk w';unfold execOp;simp[hop,g1,g2]
end
end
section
open Go Go.RowKit
section
variable {Γ:Ctx}{nt n0:Nat}{k:List It}{Q:Post}{env:Env}{H:List aN}
theorem bP.quiet{all:Array Oper}{ix:List Nat}{m f:Nat}{done:List Nat}{i:Nat}{o:Oper}{t:Nat}{v:AV}(ho:all[i]?=some o)(hx:eu Γ nt env H o v)(hw:bL all env o=some true)(hd:o.dst=some t)(ht:Nat.ble (t+1) nt=true)
  (him:Nat.ble (i+1) m=true) (h:aK Γ nt n0 all ix m f (i::done) k Q ((t,v)::env) H):bP Γ nt n0 all ix m f i done k Q env H :=
 fun hmem G0 G a w w0 GK h0 hl hF hdf hW hS hcl=>by
  have hcl':=hcl.set (i:=i) hmem;obtain⟨u,hu,hrun⟩:=hx G a w hW hF;refine YieldsIf.wpOp (S:=fun w'=>w'=w) ho (.inl ⟨bQ hF hw,fun w' hw'=>by subst hw';exact hrun _ (Below.refl _ _)⟩) rfl ⟨fun hy _=>(hS hy).2,?_⟩;exact h G0 G _ w w0 GK h0 hl (by rw[hd];exact hF.put ht hu) (bZ a _ u hdf) hW (fun hy=>hS (hy.lM (Nat.le_of_ble_eq_true him))) hcl'
theorem bP.pass{all:Array Oper}{ix:List Nat}{m f:Nat}{done:List Nat}{i:Nat}{o:Oper}{t:Nat}(ho:all[i]?=some o)(hw:bL all env o=some false)(hd:o.dst=some t)(ht:Nat.ble (t+1) nt=true)
  (him:Nat.ble (i+1) m=true) (h:aK Γ nt n0 all ix m f (i::done) k Q ((t, .cH [])::env) H):bP Γ nt n0 all ix m f i done k Q env H :=
 fun hmem G0 G a w w0 GK h0 hl hF hdf hW hS hcl=>by
  have hcl':=hcl.set (i:=i) hmem;refine YieldsIf.wpOp (S:=fun w'=>w'=w) ho (.inr ⟨bQ hF hw,rfl⟩) rfl ⟨fun hy _=>(hS hy).2,?_⟩;exact h G0 G _ w w0 GK h0 hl (by rw[hd];exact hF.put ht iF) (bZ a _ _ hdf) hW (fun hy=>hS (hy.lM (Nat.le_of_ble_eq_true him))) hcl'
theorem bP.dh{all:Array Oper}{ix:List Nat}{m f:Nat}{done:List Nat}{i:Nat}{o:Oper}{t:Nat}(h:aK Γ nt n0 all ix m f (i::done) k Q ((t, .cH [])::env) H)(ho:all[i]?=some o:=by rfl)(hw:bL all env o=some false:=by rfl)(hd:o.dst=some t:=by rfl)(ht:Nat.ble (t+1) nt=true:=by rfl)(him:Nat.ble (i+1) m=true:=by rfl):bP Γ nt n0 all ix m f i done k Q env H:=bP.pass ho hw hd ht him h
theorem aK.RE{all:Array Oper}{ix:List Nat}{m f:Nat}{done:List Nat}{i:Nat}{o:Oper}{t:Nat}(hL:gW all.toList ix done=[(i,o)])(ho:all[i]?=some o)(hw:bL all env o=some false)(hd:o.dst=some t)(ht:Nat.ble (t+1) nt=true)
  (hr:decide (Region.ready .any all (cV all.size done)=[i])=true) (him:Nat.ble (i+1) m=true) (h:aK Γ nt n0 all ix m f (i::done) k Q ((t, .cH [])::env) H):aK Γ nt n0 all ix m (f+1) done k Q env H :=
 fun G0 G a w w0 GK h0 hl hF hdf hW hS hcl=>by
  have hr':=of_decide_eq_true hr;have hcl':=hcl.set (i:=i) (by rw[hr'];simp);refine⟨fun h1=>(by rw[hr']at h1;cases h1),fun j hj=>?_⟩;have hji:j=i:=by rw[hr']at hj;simpa using hj
  subst hji;refine YieldsIf.wpOp (S:=fun w'=>w'=w) (v := .tuple #[]) ho (.inr ⟨bQ hF hw,rfl⟩) rfl ⟨fun hy _=>(hS hy).2,?_⟩;exact h G0 G _ w w0 GK h0 hl (by rw[hd];exact hF.put ht iF) (bZ a _ _ hdf) hW (fun hy=>hS (hy.lM (Nat.le_of_ble_eq_true him))) hcl'
theorem aK.jk{all:Array Oper}{ix:List Nat}{m f:Nat}{done:List Nat}{i:Nat}{o:Oper}{t:Nat}(h:aK Γ nt n0 all ix m f (i::done) k Q ((t, .cH [])::env) H)(hL:gW all.toList ix done=[(i,o)]:=by rfl)(ho:all[i]?=some o:=by rfl)(hw:bL all env o=some false:=by rfl)(hd:o.dst=some t:=by rfl)(ht:Nat.ble (t+1) nt=true:=by rfl)(hr:decide (Region.ready .any all (cV all.size done)=[i])=true:=by kernel_rfl)(him:Nat.ble (i+1) m=true:=by rfl):aK Γ nt n0 all ix m (f+1) done k Q env H:=aK.RE hL ho hw hd ht hr him h
end
end
section
open Go Go.RowKit
section
variable {Γ:Ctx}{nt n0:Nat}{k:List It}{Q:Post}{env:Env}{H:List aN}
theorem getD_set_true{l:Array Bool}{i j:Nat}(h:l.getD j false=true):(l.setIfInBounds i true).getD j false=true:=by
 rw[Array.getD_eq_getD_getElem?]at h ⊢;rw[Array.getElem?_setIfInBounds];by_cases hij:i=j
 ·subst hij;rw[if_pos rfl];by_cases hl:i<l.size
  ·rw[if_pos hl];rfl
  ·rw[Array.getElem?_eq_none (by omega)]at h;cases h
 ·rw[if_neg hij];exact h
theorem vg{P:Program}{ops:Array Oper}{Q':Exit→Act→World→Prop}{S:World→Prop}{m j:Nat}(hj:m≤j):∀(f:Nat) (listed:Array Bool) (a:Act) (w:World),listed.getD j false=true→wpAny P .any ops Q' f listed a w→fB P ops Q' S m f listed a w
 |0,_,_,_,_,h=>h
 |f+1,listed,a,w,hl,h=>⟨h.1,fun i hi=>wpOp_mono (fun a' w' h'=>⟨fun hy _=>(by have:=hy j hj;rw[hl]at this;cases this),vg hj f _ a' w' (getD_set_true hl) h'⟩) (h.2 i hi)⟩
theorem vS(n:Nat):∀(done:List Nat) (j:Nat),j∈done→j<n→(cV n done).getD j false=true
 |[],j,h,_=>by simp at h
 |i::r,j,h,hn=>by
  rw[cV];rcases List.mem_cons.1 h with rfl|h
  ·exact iH (by rw[iY];exact hn)
  ·exact getD_set_true (vS n r j h hn)
theorem aK.late{all:Array Oper}{ix:List Nat}{m f:Nat}{done:List Nat}(hl:(done.any fun j=>Nat.ble m j&&Nat.ble (j+1) all.size)=true)(h:aT Γ nt n0 all ix f done k Q env H):aK Γ nt n0 all ix m f done k Q env H :=
 fun G0 G a w w0 GK h0 hln hF hdf hW hS hcl=>by
  obtain⟨j,hj,hb⟩:=List.any_eq_true.1 hl;rw[Bool.and_eq_true]at hb;exact vg (Nat.le_of_ble_eq_true hb.1) f _ a w (vS _ _ _ hj (Nat.le_of_ble_eq_true hb.2)) (h G0 G a w h0 hln hF hdf hW hcl)
theorem ve{P:Program}{ops:Array Oper}{Q':Exit→Act→World→Prop}{S:World→Prop}{m:Nat}:∀(f:Nat) (listed:Array Bool) (a:Act) (w:World),(∀j,j<m→listed.getD j false=true)→wpAny P .any ops Q' f listed a w→fB P ops Q' S m f listed a w
 |0,_,_,_,_,h=>h
 | f + 1, listed, a, w, hl, h => ⟨h.1, fun i hi => wpOp_mono (fun a' w' h' => ⟨fun _ him => (by
   have h1:=hl i him;have h2:=(mem_ready.1 hi).1;rw[Array.getD_eq_getD_getElem?]at h1 h2;cases hx:listed[i]? with
   |none=>rw[hx]at h1;cases h1
   |some b=>rw[hx]at h1 h2;simp only[Option.getD_some]at h1 h2;rw[h1]at h2;cases h2),ve f _ a' w' (fun j hj=>getD_set_true (hl j hj)) h'⟩) (h.2 i hi)⟩
theorem aK.over{all:Array Oper}{ix:List Nat}{m f:Nat}{done:List Nat}(hl:((List.range m).all fun j=>done.contains j&&Nat.ble (j+1) all.size)=true)(h:aT Γ nt n0 all ix f done k Q env H):aK Γ nt n0 all ix m f done k Q env H :=
 fun G0 G a w w0 GK h0 hln hF hdf hW hS hcl=>by
  refine ve f _ a w (fun j hj=>?_) (h G0 G a w h0 hln hF hdf hW hcl);have:=List.all_eq_true.1 hl j (List.mem_range.2 hj);rw[Bool.and_eq_true]at this;exact vS _ _ _ (by simpa using this.1) (Nat.le_of_ble_eq_true this.2)
end
end
section
open Go Go.RowKit
section
variable {Γ:Ctx}{nt n0:Nat}{k:List It}{Q:Post}{env:Env}{H:List aN}
theorem NR{G:aO}{nt':Nat}{tmps:Array Value}{t:Nat}{c:Prop}{inst:Decidable c}(hF:df G nt' tmps env)(hv:env.get t = .d (.bool (decide c)))(hc:c):df G nt' tmps ((t, .d (.bool true))::env):=by
 have e:decide c=true:=decide_eq_true hc;rw[e]at hv;refine⟨hF.size,fun i=>?_⟩;have hr:=hF.rel i;rw[Env.get];by_cases h:t=i
 ·subst h;rw[show Nat.beq t t=true from Nat.beq_refl t,cond_true]
  rwa [hv]at hr
 ·have hb:Nat.beq t i=false:=by
   cases hx:Nat.beq t i with
   |false=>rfl
   |true=>exact absurd (Nat.eq_of_beq_eq_true hx) h
  rw[hb,cond_false];exact hr
theorem aT.lit(t:Nat){all:Array Oper}{ix:List Nat}{f:Nat}{done:List Nat}{c:Prop}{inst:Decidable c}(hv:env.get t = .d (.bool (decide c)))(hc:c)(h:aT Γ nt n0 all ix f done k Q ((t, .d (.bool true))::env) H):aT Γ nt n0 all ix f done k Q env H :=
 fun G0 G a w h0 hl hF hdf hW hcl=>h G0 G a w h0 hl (NR hF hv hc) hdf hW hcl
theorem aa.Ac(idc i:Nat){id sz:Nat}{es:List D}{cs:List AV}(hc:hget H idc=some (.cells cs))(hi:cs[i]?=some (.own sz es id))
  (h:aa Γ nt n0 k Q env (H.set idc (.cells (cs.set i (.d (.sl sz es)))))):aa Γ nt n0 k Q env H :=
 fun G0 G a w h0 hl hF hdf hW=>by
  rw[dA]at hc;obtain⟨b,cur,t,a1,a2,a3,a4,a5,a6⟩:=hW.obj idc _ hc
  have g4:=hW.turn (id:=idc) (cs:=cs) (cs':=cs.set i (.d (.sl sz es))) hc (by simp) (fun c hc'=>by
   rcases List.mem_or_eq_of_mem_set hc' with h1|h1
   ·exact a4 c h1
   ·subst h1;rfl) (fun j c c' h1 h2 v hv=>by
   by_cases hij:i=j
   ·subst hij;rw[List.getElem?_set_self (aI h1)]at h2;cases h2;rw[hi]at h1;cases h1;exact (cJ.own _ _ _) G v hv
   ·rw[List.getElem?_set_ne hij,h1]at h2
    cases h2;exact hv)
  exact h G0 G a w h0 (by simp;omega) hF hdf g4
end
section
open Go Go.RowKit
variable {Γ:Ctx}{nt n0:Nat}{k:List It}{Q:Post}{env:Env}{H:List aN}
theorem aa.xa(idc:Nat)(i:Nat){id sz:Nat}{es:List D}{cs:List AV}{bb:Prop}(h:bb)(hc:hget H idc=some (.cells cs):=by rfl)(hi:cs[i]?=some (.own sz es id):=by rfl)(hbb:bb→aa Γ nt n0 k Q env (H.set idc (.cells (cs.set i (.d (.sl sz es))))):=by intro k;simp only[List.set_cons_zero,List.set_cons_succ];exact k):aa Γ nt n0 k Q env H:=aa.Ac idc i hc hi (hbb h)
end
end
end Go.Proofs.YtbpednchkndocaaGreatDoor.Av
