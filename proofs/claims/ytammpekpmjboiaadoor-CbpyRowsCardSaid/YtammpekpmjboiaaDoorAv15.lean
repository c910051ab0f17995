/- Bytes made a string. -/
import Derived.Test.YtammpekpmjboiaaDoorAv14
set_option linter.unusedVariables false
set_option linter.unusedSimpArgs false
namespace Go.Proofs.YtammpekpmjboiaaDoor.Av
open Go Go.RowKit
section
variable {Γ : Ctx} {nt n0 : Nat} {k : List It} {Q : Post} {env : Env} {H : List AObj} {G : Ghost} {w w' : World} {a : Act}
theorem octets_append (l m : List UInt8) : octets (l ++ m) = octets l ++ octets m := by simp [octets]
theorem octets_length (l : List UInt8) : (octets l).length = l.length := by simp [octets]

theorem bytes_of_rows {w : World} {u : Value} {l : List UInt8} (hW : WRel Γ.gl G H w) (hu : DRel G.imm u (.sl 1 (octets l))) :
    (Conv.bytesToString u).run Γ.P w = .ok (.string ⟨l.toArray⟩) w := by
  generalize hes : octets l = es at hu
  cases hu with
  | sl0 ad cap =>
    have : l = [] := List.eq_nil_of_length_eq_zero (by have := congrArg List.length hes; simpa [octets] using this)
    subst this
    cases ad <;> simp [Conv.bytesToString, loadCells, loadCellsFrom] <;> rfl
  | sl b o cap _ _ hne hcap hsz hone hin h =>
    have hlen : es.length = l.length := by rw [← hes, octets_length]
    have hc : (loadCells ⟨b, o, none⟩ es.length).run Γ.P w = .ok ((l.map fun b => (b.toNat : Int)).map (Value.int .u8)).toArray w := by
      have := run_loadCells_list (P := Γ.P) w ⟨b, o, none⟩ ((l.map fun b => (b.toNat : Int)).map (Value.int .u8)) (fun j v hj => by
        rw [addr_add]
        simp only [List.map_map, List.getElem?_map] at hj
        cases hq : l[j]? with
        | none => simp [hq] at hj
        | some x =>
          simp [hq] at hj
          subst hj
          have hjl := getElem?_lt hq
          have he : es[j]? = some (D.int .u8 (x.toNat : Int)) := by rw [← hes]; simp [octets, hq]
          have hr := h j _ 0 (D.int .u8 (x.toNat : Int)) he rfl
          simp only [Nat.mul_one, Nat.add_zero] at hr
          have hi := hW.imm b (o + j) (by omega)
          generalize gv (G.imm b) (o + j) = g at hr hi
          cases hr
          exact hi)
      simpa [hlen] using this
    rw [run_bytesToString w ⟨b, o, none⟩ es.length cap _ hc]
    congr 2
    have key : ∀ (m : List UInt8) (s : ByteArray), (m.map fun b => (b.toNat : Int)).foldl (fun r n => r.push (UInt8.ofNat n.toNat)) s = ⟨(s.data.toList ++ m).toArray⟩ := by
      intro m
      induction m with
      | nil => intro s; simp
      | cons x m ih => intro s; simp only [List.map_cons, List.foldl_cons]; rw [ih]; simp [ByteArray.push]
    rw [key]; simp

theorem strB_run {o : Oper} {S Dt e : Nat} {x : Operand} {ti te td : TI} {es : List D} {l : List UInt8} (hop : o.op = .convert S Dt x) (hS : lookT Γ.T S = some ti) (hsh : ti.sh = .slice e) (hE : lookT Γ.T e = some te)
    (hesh : te.sh = .int .u8) (hD : lookT Γ.T Dt = some td) (hdsh : td.sh = .str) (hx : (ev Γ env x).unD = some (.sl 1 es)) (hes : es = octets l) (hW : WRel Γ.gl G H w) (hF : FRel G nt a.tmps env) :
    (execOp a.eval o).run Γ.P w = .ok (.value (.string ⟨l.toArray⟩)) w := by
  subst hes
  obtain ⟨f⟩ := Γ.ty hS
  obtain ⟨fe⟩ := Γ.ty hE
  obtain ⟨fd⟩ := Γ.ty hD
  have hu := unD_ok (ev_ok hW hF x) hx
  have hb := bytes_of_rows hW hu
  have hsl : ∃ ad ln cp, a.eval x = .slice ad ln cp := by
    generalize a.eval x = u at hu
    generalize octets l = es at hu
    cases hu <;> exact ⟨_, _, _, rfl⟩
  obtain ⟨ad, ln, cp, hv⟩ := hsl
  rw [hv] at hb
  have hc := run_convert_bytes_string (P := Γ.P) w S Dt e ad ln cp (und_slice f hsh) (und_int fe hesh) (und_str fd hdsh)
  unfold execOp
  simp [hop, hv, hc, hb]
theorem str_vrel (l : List UInt8) : VRel G (.string ⟨l.toArray⟩) (.d (.str l)) := by
  have := DRel.str (imm := G.imm) ⟨l.toArray⟩
  exact .d _ _ (by simpa using this)
theorem AGo.strB {all : Array Oper} {o : Oper} {l' : List Oper} {t S Dt e : Nat} {x : Operand} {ti te td : TI} {es : List D} {l : List UInt8} (hop : o.op = .convert S Dt x) (hg : o.guard = none) (hd : o.dst = some t) (ht : Nat.ble (t + 1) nt = true)
    (hS : lookT Γ.T S = some ti) (hsh : ti.sh = .slice e) (hE : lookT Γ.T e = some te) (hesh : te.sh = .int .u8) (hD : lookT Γ.T Dt = some td) (hdsh : td.sh = .str) (hx : (ev Γ env x).unD = some (.sl 1 es)) (hes : es = octets l)
    (h : AGo Γ nt n0 (.ops all l' :: k) Q ((t, .d (.str l)) :: env) H) : AGo Γ nt n0 (.ops all (o :: l') :: k) Q env H :=
  fun G0 G a w h0 hl hF hdf hW => by
    have hr := strB_run hop hS hsh hE hesh hD hdsh hx hes hW hF
    have hn := h G0 G (a.put (some t) (.string ⟨l.toArray⟩)) w h0 hl (hF.put ht (str_vrel l)) (by simp [Act.put, hdf]) hW
    simp only [resm] at hn ⊢
    unfold wpList
    rw [if_pos (wanted_none hg)]
    refine .inl ?_
    unfold Oper.wp
    rw [hr]
    simp only [Oper.upon, hd]
    exact hn
theorem AGo.qstrB {all : Array Oper} {o : Oper} {l' : List Oper} {t S Dt e : Nat} {x : Operand} {ti te td : TI} {es : List D} {l : List UInt8} (hop : o.op = .convert S Dt x) (hg : o.guard = none) (hd : o.dst = some t) (ht : Nat.ble (t + 1) nt = true)
    (hS : lookT Γ.T S = some ti) (hsh : ti.sh = .slice e) (hE : lookT Γ.T e = some te) (hesh : te.sh = .int .u8) (hD : lookT Γ.T Dt = some td) (hdsh : td.sh = .str) (hx : (ev Γ env x).unD = some (.sl 1 es)) (hes : es = octets l)
    (h : AGo Γ nt n0 (.qops all l' :: k) Q ((t, .d (.str l)) :: env) H) : AGo Γ nt n0 (.qops all (o :: l') :: k) Q env H :=
  fun G0 G a w h0 hl hF hdf hW => by
    have hn := h G0 G (a.put (some t) (.string ⟨l.toArray⟩)) w h0 hl (hF.put ht (str_vrel l)) (by simp [Act.put, hdf]) hW
    simp only [resm] at hn ⊢
    unfold wpQuiet
    rw [if_pos (wanted_none hg)]
    refine ⟨_, fun w' hb => ?_, by rw [hd]; exact hn⟩
    have hr := strB_run hop hS hsh hE hesh hD hdsh hx hes (hW.below hb) hF
    unfold Oper.quietAt
    rw [hr]
    exact ⟨rfl, rfl⟩
theorem AGo.strN {all : Array Oper} {o : Oper} {l' : List Oper} {t S Dt e : Nat} {x : Operand} {ti te td : TI} (hop : o.op = .convert S Dt x) (hg : o.guard = none) (hd : o.dst = some t) (ht : Nat.ble (t + 1) nt = true)
    (hS : lookT Γ.T S = some ti) (hsh : ti.sh = .slice e) (hE : lookT Γ.T e = some te) (hesh : te.sh = .int .u8) (hD : lookT Γ.T Dt = some td) (hdsh : td.sh = .str) (hx : ev Γ env x = .d .nils)
    (h : AGo Γ nt n0 (.ops all l' :: k) Q ((t, .d (.str [])) :: env) H) : AGo Γ nt n0 (.ops all (o :: l') :: k) Q env H :=
  fun G0 G a w h0 hl hF hdf hW => by
    obtain ⟨f⟩ := Γ.ty hS
    obtain ⟨fe⟩ := Γ.ty hE
    obtain ⟨fd⟩ := Γ.ty hD
    have hv : a.eval x = .slice none 0 0 := by
      have hu := ev_ok hW hF x
      rw [hx] at hu
      generalize a.eval x = u at hu
      cases hu with | d _ _ hd => cases hd; rfl
    have hb := bytes_of_rows (l := []) hW (DRel.sl0 (imm := G.imm) none 0 1)
    have hc := run_convert_bytes_string (P := Γ.P) w S Dt e none 0 0 (und_slice f hsh) (und_int fe hesh) (und_str fd hdsh)
    have hr : (execOp a.eval o).run Γ.P w = .ok (.value (.string ⟨([] : List UInt8).toArray⟩)) w := by
      unfold execOp
      simp [hop, hv, hc, hb]
    have hn := h G0 G (a.put (some t) (.string ⟨([] : List UInt8).toArray⟩)) w h0 hl (hF.put ht (str_vrel [])) (by simp [Act.put, hdf]) hW
    simp only [resm] at hn ⊢
    unfold wpList
    rw [if_pos (wanted_none hg)]
    refine .inl ?_
    unfold Oper.wp
    rw [hr]
    simp only [Oper.upon, hd]
    exact hn
end
end Go.Proofs.YtammpekpmjboiaaDoor.Av
