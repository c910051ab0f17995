/- The evaluator's quiet operations, and that they are sound. -/
import Derived.Test.YtammpekpmjboiaaDoorAv2
set_option linter.unusedVariables false
set_option linter.unusedSimpArgs false
namespace Go.Proofs.YtammpekpmjboiaaDoor.Av
open Go Go.RowKit

/-- What is needed of a type. -/
inductive Sh where
  | other | bool | int (k : IntKind) | str | struct (fs : List (Nat × Nat)) | array (len : Nat) (e : Nat) | slice (e : Nat) | map (k v : Nat) | ptr (e : Nat)

structure TI where
  size : Nat
  bytes : Nat
  agg : Bool
  zero : List D
  sh : Sh

def lookT {α : Type} : List (Nat × α) → Nat → Option α
  | [], _ => none
  | (j, x) :: r, t => bif Nat.beq j t then some x else lookT r t

def zeroOk : List Value → List D → Bool
  | [], [] => true
  | .bool a :: r, .bool b :: s => a == b && zeroOk r s
  | .int k a :: r, .int l b :: s => decide (k = l) && decide (a = b) && zeroOk r s
  | .string a :: r, .str [] :: s => a.data.isEmpty && zeroOk r s
  | .pointer none :: r, .nilp :: s => zeroOk r s
  | .slice none 0 0 :: r, .nils :: s => zeroOk r s
  | .map none :: r, .nilm :: s => zeroOk r s
  | .nilFunc :: r, .top :: s => zeroOk r s
  | .nilIface :: r, .top :: s => zeroOk r s
  | _, _ => false

def fieldsOk (P : Program) : List Field → List (Nat × Nat) → Bool
  | [], [] => true
  | f :: r, (o, t) :: s => f.offset == o && f.type == t && (match P.info? f.type with | some i => i.size != 0 | none => false) && fieldsOk P r s
  | _, _ => false

def shOk (P : Program) : Option TypeDesc → Sh → Bool
  | some _, .other => true
  | some .bool, .bool => true
  | some (.int k), .int k' => decide (k = k')
  | some .string, .str => true
  | some (.struct fs), .struct gs => fieldsOk P fs.toList gs
  | some (.array n e), .array m e' => n == m && e == e'
  | some (.slice e), .slice e' => e == e'
  | some (.pointer e), .ptr e' => e == e'
  | some (.map k v), .map k' v' => k == k' && v == v'
  | _, _ => false

def isRowB : Option TypeDesc → Bool
  | some (.struct _) | some (.array _ _) => true
  | _ => false

def tyOk (P : Program) (t : Nat) (ti : TI) : Bool :=
  match P.info? t with
  | none => false
  | some i => i.size == ti.size && i.bytes == ti.bytes && (match i.zero with | some z => zeroOk z.cells.toList ti.zero | none => false) && shOk P (P.underlying t) ti.sh &&
      (isRowB (P.underlying t) == ti.agg) && ti.zero.length == ti.size && (ti.agg || ti.size == 1)

def allOk (P : Program) : List (Nat × TI) → Bool
  | [] => true
  | (t, ti) :: r => tyOk P t ti && allOk P r

structure Ctx where
  P : Program
  T : List (Nat × TI)
  gl : List (Nat × List D)
  ok : allOk P T = true
  mixed : P.follows .mixedOrders = true

theorem lookT_ok {P : Program} : ∀ {T : List (Nat × TI)}, allOk P T = true → ∀ {t : Nat} {ti : TI}, lookT T t = some ti → tyOk P t ti = true
  | [], _, _, _, h => by cases h
  | (j, x) :: r, hT, t, ti, h => by
    simp only [allOk, Bool.and_eq_true] at hT
    simp only [lookT] at h
    cases hb : Nat.beq j t with
    | true =>
      rw [hb] at h; cases h
      have := Nat.eq_of_beq_eq_true hb
      subst this; exact hT.1
    | false => rw [hb] at h; exact lookT_ok hT.2 h
theorem lookT_mem {α : Type} : ∀ {T : List (Nat × α)} {t : Nat} {x : α}, lookT T t = some x → (t, x) ∈ T
  | [], _, _, h => by cases h
  | (j, y) :: r, t, x, h => by
    simp only [lookT] at h
    cases hb : Nat.beq j t with
    | true =>
      rw [hb] at h; cases h
      have := Nat.eq_of_beq_eq_true hb
      subst this; exact List.mem_cons_self
    | false => rw [hb] at h; exact List.mem_cons_of_mem _ (lookT_mem h)

/-! ### Frames -/
abbrev Env := List (Nat × AV)
def Env.get : Env → Nat → AV
  | [], _ => .top
  | (j, v) :: r, i => bif Nat.beq j i then v else Env.get r i

structure FRel (G : Ghost) (nt : Nat) (tmps : Array Value) (env : Env) : Prop where
  size : tmps.size = nt
  rel : ∀ i, VRel G (tmps.getD i undef) (Env.get env i)

def dbytes (s : ByteArray) : List UInt8 := s.data.toList

def constD : Value → D
  | .bool b => .bool b
  | .int k n => .int k n
  | .string s => .str s.data.toList
  | .pointer none => .nilp
  | .slice none 0 0 => .nils
  | _ => .top
def constAV : Value → AV
  | .bool b => .d (.bool b)
  | .int k n => .d (.int k n)
  | .string s => .d (.str s.data.toList)
  | .pointer none => .d .nilp
  | .slice none 0 0 => .d .nils
  | _ => .top

def ev (Γ : Ctx) (env : Env) : Operand → AV
  | .tmp t => env.get t
  | .const v => constAV v
  | .global g => match lookT Γ.gl g with | some cs => .d (.iptr cs) | none => .top
  | .func f => .fn (.func f) [] []

def hget : List AObj → Nat → Option AObj
  | [], _ => none
  | o :: _, 0 => some o
  | _ :: r, n + 1 => hget r n
theorem hget_eq : ∀ (H : List AObj) (n : Nat), hget H n = H[n]?
  | [], n => by simp [hget]
  | o :: r, 0 => by simp [hget]
  | o :: r, n + 1 => by simp [hget, hget_eq r n]

/-! ### Whole numbers -/
def kres (k : IntKind) (n : Int) : Option (Prop × AV) :=
  match k with
  | .i64 => some (-9223372036854775808 ≤ n ∧ n ≤ 9223372036854775807, .d (.int .i64 n))
  | .i32 => some (-2147483648 ≤ n ∧ n ≤ 2147483647, .d (.int .i32 n))
  | .u8 => some (True, .d (.int .u8 (n % 256)))
  | .u32 => some (True, .d (.int .u32 (n % 4294967296)))
  | .u64 => some (True, .d (.int .u64 (n % 18446744073709551616)))
  | _ => none

/-- A conversion: no wrap but for bytes. -/
def kconv (k : IntKind) (n : Int) : Option (Prop × AV) :=
  match k with
  | .i64 => some (-9223372036854775808 ≤ n ∧ n ≤ 9223372036854775807, .d (.int .i64 n))
  | .i32 => some (-2147483648 ≤ n ∧ n ≤ 2147483647, .d (.int .i32 n))
  | .u8 => some (True, .d (.int .u8 (n % 256)))
  | .u32 => some (0 ≤ n ∧ n ≤ 4294967295, .d (.int .u32 n))
  | .u64 => some (0 ≤ n ∧ n ≤ 18446744073709551615, .d (.int .u64 n))
  | _ => none

theorem wrap_i64 {n : Int} (h : -9223372036854775808 ≤ n ∧ n ≤ 9223372036854775807) : IntKind.i64.wrap n = n := by
  have e : IntKind.i64.wrap n = if 9223372036854775808 ≤ n % 18446744073709551616 then n % 18446744073709551616 - 18446744073709551616 else n % 18446744073709551616 := by
    simp [IntKind.wrap, IntKind.signed, IntKind.bits]
  rw [e]; split <;> omega
theorem wrap_i32 {n : Int} (h : -2147483648 ≤ n ∧ n ≤ 2147483647) : IntKind.i32.wrap n = n := by
  have e : IntKind.i32.wrap n = if 2147483648 ≤ n % 4294967296 then n % 4294967296 - 4294967296 else n % 4294967296 := by
    simp [IntKind.wrap, IntKind.signed, IntKind.bits]
  rw [e]; split <;> omega
theorem wrap_u8 (n : Int) : IntKind.u8.wrap n = n % 256 := by simp [IntKind.wrap, IntKind.signed, IntKind.bits]
theorem wrap_u32 (n : Int) : IntKind.u32.wrap n = n % 4294967296 := by simp [IntKind.wrap, IntKind.signed, IntKind.bits]
theorem wrap_u64 (n : Int) : IntKind.u64.wrap n = n % 18446744073709551616 := by simp [IntKind.wrap, IntKind.signed, IntKind.bits]

theorem kres_ok {G : Ghost} {k : IntKind} {n : Int} {c : Prop} {v : AV} (h : kres k n = some (c, v)) (hc : c) : VRel G (.int k (k.wrap n)) v := by
  cases k <;> simp only [kres, Option.some.injEq, Prod.mk.injEq, reduceCtorEq] at h <;> obtain ⟨rfl, rfl⟩ := h
  case i64 => rw [wrap_i64 hc]; exact .d _ _ (.int ..)
  case i32 => rw [wrap_i32 hc]; exact .d _ _ (.int ..)
  case u8 => rw [wrap_u8]; exact .d _ _ (.int ..)
  case u32 => rw [wrap_u32]; exact .d _ _ (.int ..)
  case u64 => rw [wrap_u64]; exact .d _ _ (.int ..)
theorem kconv_ok {G : Ghost} {k : IntKind} {n : Int} {c : Prop} {v : AV} (h : kconv k n = some (c, v)) (hc : c) : VRel G (.int k (k.wrap n)) v := by
  cases k <;> simp only [kconv, Option.some.injEq, Prod.mk.injEq, reduceCtorEq] at h <;> obtain ⟨rfl, rfl⟩ := h
  case i64 => rw [wrap_i64 hc]; exact .d _ _ (.int ..)
  case i32 => rw [wrap_i32 hc]; exact .d _ _ (.int ..)
  case u8 => rw [wrap_u8]; exact .d _ _ (.int ..)
  case u32 => rw [wrap_u32, Int.emod_eq_of_lt hc.1 (by omega)]; exact .d _ _ (.int ..)
  case u64 => rw [wrap_u64, Int.emod_eq_of_lt hc.1 (by omega)]; exact .d _ _ (.int ..)

def bitsA (k : IntKind) (x y : Int) (f : Nat → Nat → Nat) : Option (Prop × AV) :=
  match k with
  | .i64 => some ((0 ≤ x ∧ x ≤ 9223372036854775807) ∧ 0 ≤ y ∧ y ≤ 9223372036854775807, .d (.int .i64 (f x.toNat y.toNat : Nat)))
  | .u8 => some ((0 ≤ x ∧ x ≤ 255) ∧ 0 ≤ y ∧ y ≤ 255, .d (.int .u8 (f x.toNat y.toNat : Nat)))
  | .u32 => some ((0 ≤ x ∧ x ≤ 4294967295) ∧ 0 ≤ y ∧ y ≤ 4294967295, .d (.int .u32 (f x.toNat y.toNat : Nat)))
  | .u64 => some ((0 ≤ x ∧ x ≤ 18446744073709551615) ∧ 0 ≤ y ∧ y ≤ 18446744073709551615, .d (.int .u64 (f x.toNat y.toNat : Nat)))
  | _ => none

def shlA (k : IntKind) (x : Int) (n : Nat) : Option (Prop × AV) :=
  match k with
  | .i64 => some (n ≤ 64 ∧ -9223372036854775808 ≤ x * 2 ^ n ∧ x * 2 ^ n ≤ 9223372036854775807, .d (.int .i64 (x * 2 ^ n)))
  | .u8 => some (n ≤ 8, .d (.int .u8 (x * 2 ^ n % 256)))
  | .u32 => some (n ≤ 32, .d (.int .u32 (x * 2 ^ n % 4294967296)))
  | .u64 => some (n ≤ 64, .d (.int .u64 (x * 2 ^ n % 18446744073709551616)))
  | _ => none

def intA (nn : Bool) (op : BinOp) (k : IntKind) (x y : Int) : Option (Prop × AV) :=
  match op with
  | .add => kres k (x + y)
  | .sub => kres k (x - y)
  | .mul => kres k (x * y)
  | .quo => match k, nn with
    | .i64, true => some ((0 ≤ x ∧ x ≤ 9223372036854775807) ∧ 0 < y, .d (.int .i64 (x / y)))
    | .i64, false => some ((-9223372036854775808 ≤ x.tdiv y ∧ x.tdiv y ≤ 9223372036854775807) ∧ y ≠ 0, .d (.int .i64 (x.tdiv y)))
    | .u64, _ => some ((0 ≤ x ∧ x ≤ 18446744073709551615) ∧ 0 < y, .d (.int .u64 (x / y)))
    | .u8, _ => some ((0 ≤ x ∧ x ≤ 255) ∧ 0 < y, .d (.int .u8 (x / y)))
    | _, _ => none
  | .rem => bif nn then some (0 ≤ x ∧ 0 < y, .d (.int k (x % y))) else some (y ≠ 0, .d (.int k (x.tmod y)))
  | .and => bitsA k x y (· &&& ·)
  | .or => bitsA k x y (· ||| ·)
  | .xor => bitsA k x y (· ^^^ ·)
  | .eql => some (True, .d (.bool (decide (x = y))))
  | .neq => some (True, .d (.bool (!decide (x = y))))
  | .lss => some (True, .d (.bool (decide (x < y))))
  | .leq => some (True, .d (.bool (decide (x ≤ y))))
  | .gtr => some (True, .d (.bool (decide (y < x))))
  | .geq => some (True, .d (.bool (decide (y ≤ x))))
  | _ => none

def binA (nn : Bool) (op : BinOp) (a b : AV) : Option (Prop × AV) :=
  match op, a, b with
  | .shl, .d (.int k x), .d (.int _ y) => match shlA k x y.toNat with | some (c, v) => some (0 ≤ y ∧ c, v) | none => none
  | .shr, .d (.int k x), .d (.int _ y) => some (0 ≤ y ∧ y.toNat ≤ k.bits, .d (.int k (x / 2 ^ y.toNat)))
  | op, .d (.int k x), .d (.int k' y) => bif decide (k = k') then intA nn op k x y else none
  | .add, .d (.str s), .d (.str t) => some (s.length + t.length ≤ 9223372036854775807, .d (.str (s ++ t)))
  | .eql, .d (.str s), .d (.str t) => some (True, .d (.bool (decide (s = t))))
  | .neq, .d (.str s), .d (.str t) => some (True, .d (.bool (!decide (s = t))))
  | _, _, _ => none

theorem back_nat {k : IntKind} {n : Nat} (h : (n : Int) ≤ (match k with | .i64 => 9223372036854775807 | .u8 => 255 | .u32 => 4294967295 | .u64 => 18446744073709551615 | _ => 0)) (hk : k = .i64 ∨ k = .u8 ∨ k = .u32 ∨ k = .u64) : k.wrap (n : Int) = n := by
  rcases hk with rfl | rfl | rfl | rfl
  · exact wrap_i64 (by simp at h; omega)
  · rw [wrap_u8]; simp at h; omega
  · rw [wrap_u32]; simp at h; omega
  · rw [wrap_u64]; simp at h; omega

theorem ofInt_toNat (w : Nat) {x : Int} (h0 : 0 ≤ x) (h : x.toNat < 2 ^ w) : (BitVec.ofInt w x).toNat = x.toNat := by
  obtain ⟨n, rfl⟩ := Int.eq_ofNat_of_zero_le h0
  simp only [Int.toNat_natCast] at h ⊢
  rw [BitVec.ofInt_natCast, BitVec.toNat_ofNat, Nat.mod_eq_of_lt h]

section
variable {P : Program} {G : Ghost} {w : World} {nn : Bool}

theorem bits_run {k : IntKind} {x y : Int} {op : BinOp} {f : Nat → Nat → Nat} (hop : (op = .and ∧ f = (· &&& ·)) ∨ (op = .or ∧ f = (· ||| ·)) ∨ (op = .xor ∧ f = (· ^^^ ·))) {c : Prop} {v : AV}
    (h : bitsA k x y f = some (c, v)) (hc : c) : ∃ r, VRel G r v ∧ ∀ w, (Op.intBits op k x y).run P w = .ok r w := by
  have key : ∀ (m : Nat), (m = 8 ∨ m = 32 ∨ m = 64 ∨ m = 63) → x.toNat < 2 ^ m → y.toNat < 2 ^ m → f x.toNat y.toNat < 2 ^ m := fun m _ h1 h2 => by
    rcases hop with ⟨_, rfl⟩ | ⟨_, rfl⟩ | ⟨_, rfl⟩
    · exact Nat.and_lt_two_pow _ h2
    · exact Nat.or_lt_two_pow h1 h2
    · exact Nat.xor_lt_two_pow h1 h2
  have gen : ∀ (m : Nat), k.bits = m → 0 ≤ x → 0 ≤ y → x.toNat < 2 ^ m → y.toNat < 2 ^ m → k.wrap (f x.toNat y.toNat : Nat) = (f x.toNat y.toNat : Nat) →
      ∀ w, (Op.intBits op k x y).run P w = .ok (.int k (f x.toNat y.toNat : Nat)) w := fun m hm h0 h1 h2 h3 h4 w => by
    subst hm
    have e1 := ofInt_toNat k.bits h0 h2
    have e2 := ofInt_toNat k.bits h1 h3
    rcases hop with ⟨rfl, rfl⟩ | ⟨rfl, rfl⟩ | ⟨rfl, rfl⟩ <;>
      simp only [Op.intBits, Sem.run_pure, BitVec.toNat_and, BitVec.toNat_or, BitVec.toNat_xor, e1, e2] <;> rw [h4]
  cases k <;> simp only [bitsA, Option.some.injEq, Prod.mk.injEq, reduceCtorEq] at h <;> obtain ⟨rfl, rfl⟩ := h <;> obtain ⟨⟨a0, a1⟩, b0, b1⟩ := hc
  case i64 =>
    have hh := key 63 (by simp) (by omega) (by omega)
    exact ⟨_, .d _ _ (.int ..), gen 64 rfl a0 b0 (by omega) (by omega) (wrap_i64 (by omega))⟩
  case u8 =>
    have hh := key 8 (by simp) (by omega) (by omega)
    exact ⟨_, .d _ _ (.int ..), gen 8 rfl a0 b0 (by omega) (by omega) (by rw [wrap_u8]; omega)⟩
  case u32 =>
    have hh := key 32 (by simp) (by omega) (by omega)
    exact ⟨_, .d _ _ (.int ..), gen 32 rfl a0 b0 (by omega) (by omega) (by rw [wrap_u32]; omega)⟩
  case u64 =>
    have hh := key 64 (by simp) (by omega) (by omega)
    exact ⟨_, .d _ _ (.int ..), gen 64 rfl a0 b0 (by omega) (by omega) (by rw [wrap_u64]; omega)⟩

theorem intA_ok {op : BinOp} {k : IntKind} {x y : Int} {c : Prop} {v : AV} (h : intA nn op k x y = some (c, v)) (hc : c) (hs : op ≠ .shl) (hs' : op ≠ .shr) (t : TypeId) :
    ∃ r, VRel G r v ∧ ∀ w, (binOp op t (.int k x) (.int k y)).run P w = .ok r w := by
  cases op <;> simp only [intA, reduceCtorEq] at h <;> try contradiction
  case add => exact ⟨_, kres_ok h hc, fun w => by simp [binOp, Op.intArith]⟩
  case sub => exact ⟨_, kres_ok h hc, fun w => by simp [binOp, Op.intArith]⟩
  case mul => exact ⟨_, kres_ok h hc, fun w => by simp [binOp, Op.intArith]⟩
  case and =>
    obtain ⟨r, h1, h2⟩ := bits_run (P := P) (G := G) (.inl ⟨rfl, rfl⟩) h hc
    exact ⟨r, h1, fun w => by simp [binOp, h2 w]⟩
  case or =>
    obtain ⟨r, h1, h2⟩ := bits_run (P := P) (G := G) (.inr (.inl ⟨rfl, rfl⟩)) h hc
    exact ⟨r, h1, fun w => by simp [binOp, h2 w]⟩
  case xor =>
    obtain ⟨r, h1, h2⟩ := bits_run (P := P) (G := G) (.inr (.inr ⟨rfl, rfl⟩)) h hc
    exact ⟨r, h1, fun w => by simp [binOp, h2 w]⟩
  case eql =>
    simp only [Option.some.injEq, Prod.mk.injEq] at h; obtain ⟨rfl, rfl⟩ := h
    exact ⟨_, .d _ _ (.bool _), fun w => by simp [binOp, Op.intCmp]; rfl⟩
  case neq =>
    simp only [Option.some.injEq, Prod.mk.injEq] at h; obtain ⟨rfl, rfl⟩ := h
    exact ⟨_, .d _ _ (.bool _), fun w => by simp [binOp, Op.intCmp]; rfl⟩
  case lss =>
    simp only [Option.some.injEq, Prod.mk.injEq] at h; obtain ⟨rfl, rfl⟩ := h
    exact ⟨_, .d _ _ (.bool _), fun w => by simp [binOp, Op.intCmp]⟩
  case leq =>
    simp only [Option.some.injEq, Prod.mk.injEq] at h; obtain ⟨rfl, rfl⟩ := h
    exact ⟨_, .d _ _ (.bool _), fun w => by simp [binOp, Op.intCmp]⟩
  case gtr =>
    simp only [Option.some.injEq, Prod.mk.injEq] at h; obtain ⟨rfl, rfl⟩ := h
    exact ⟨_, .d _ _ (.bool _), fun w => by simp [binOp, Op.intCmp]⟩
  case geq =>
    simp only [Option.some.injEq, Prod.mk.injEq] at h; obtain ⟨rfl, rfl⟩ := h
    exact ⟨_, .d _ _ (.bool _), fun w => by simp [binOp, Op.intCmp]⟩
  case rem =>
    cases nn <;> simp only [cond_true, cond_false, Option.some.injEq, Prod.mk.injEq] at h <;> obtain ⟨rfl, rfl⟩ := h
    · exact ⟨_, .d _ _ (.int ..), fun w => by simp [binOp, Op.intDiv, hc]⟩
    · obtain ⟨h0, h1⟩ := hc
      exact ⟨_, .d _ _ (.int ..), fun w => by simp [binOp, Op.intDiv, Int.tmod_eq_emod_of_nonneg h0]; omega⟩
  case quo =>
    cases k <;> cases nn <;> simp only [Option.some.injEq, Prod.mk.injEq, reduceCtorEq] at h <;> obtain ⟨rfl, rfl⟩ := h
    case i64.true =>
      obtain ⟨⟨h0, h1⟩, h2⟩ := hc
      have hd : x / y ≤ x := Int.ediv_le_self y h0
      have hp : 0 ≤ x / y := Int.ediv_nonneg h0 (by omega)
      have hwr : IntKind.i64.wrap (x / y) = x / y := wrap_i64 ⟨by omega, by omega⟩
      exact ⟨_, .d _ _ (.int ..), fun w => by
        simp only [binOp, Op.intDiv, if_neg (show ¬ y = 0 by omega), Int.tdiv_eq_ediv_of_nonneg h0, hwr]; simp⟩
    case i64.false =>
      obtain ⟨h1, h2⟩ := hc
      exact ⟨_, .d _ _ (.int ..), fun w => by simp only [binOp, Op.intDiv, if_neg h2, wrap_i64 h1]; simp⟩
    all_goals
      obtain ⟨⟨h0, h1⟩, h2⟩ := hc
      have hd : x / y ≤ x := Int.ediv_le_self y h0
      have hp : 0 ≤ x / y := Int.ediv_nonneg h0 (by omega)
      refine ⟨_, .d _ _ (.int ..), fun w => ?_⟩
      simp only [binOp, Op.intDiv, if_neg (show ¬ y = 0 by omega), Int.tdiv_eq_ediv_of_nonneg h0, wrap_u64, wrap_u8]
      rw [Int.emod_eq_of_lt hp (by omega)]; simp

theorem eqGuard_int (op : BinOp) (t : TypeId) (xo yo : Operand) (k k' : IntKind) (x y : Int) (w : World) : (eqGuard op t xo yo (.int k x) (.int k' y)).run P w = .ok () w := by
  unfold eqGuard; cases op <;> simp
theorem eqGuard_str (op : BinOp) (t : TypeId) (xo yo : Operand) (x y : ByteArray) (w : World) : (eqGuard op t xo yo (.string x) (.string y)).run P w = .ok () w := by
  unfold eqGuard; cases op <;> simp

theorem VRel.int_inv {v : Value} {k : IntKind} {x : Int} (h : VRel G v (.d (.int k x))) : v = .int k x := by
  cases h with | d _ _ h => cases h; rfl
theorem VRel.bool_inv {v : Value} {b : Bool} (h : VRel G v (.d (.bool b))) : v = .bool b := by
  cases h with | d _ _ h => cases h; rfl
theorem VRel.str_inv {v : Value} {s : List UInt8} (h : VRel G v (.d (.str s))) : v = .string ⟨s.toArray⟩ := by
  cases h with | d _ _ h => cases h; rfl

theorem beqd (s t : List UInt8) : (s == t) = decide (s = t) := by rw [Bool.eq_iff_iff]; simp
theorem bytes_toList (s : ByteArray) : s.toList = s.data.toList := by
  rw [ByteArray.toList_eq]

theorem shlA_ok {k : IntKind} {x y : Int} {yk : IntKind} {c : Prop} {v : AV} (h : shlA k x y.toNat = some (c, v)) (hc : c) (h0 : 0 ≤ y) (t : TypeId) :
    ∃ r, VRel G r v ∧ ∀ w, (binOp .shl t (.int k x) (.int yk y)).run P w = .ok r w := by
  cases k <;> simp only [shlA, Option.some.injEq, Prod.mk.injEq, reduceCtorEq] at h <;> obtain ⟨rfl, rfl⟩ := h
  case i64 =>
    obtain ⟨h1, h2⟩ := hc
    exact ⟨_, .d _ _ (.int ..), fun w => by
      simp only [binOp, Op.shift, if_neg (show ¬ y < 0 by omega), IntKind.bits, Nat.min_eq_left h1, wrap_i64 h2]; simp⟩
  all_goals
    refine ⟨_, .d _ _ (.int ..), fun w => ?_⟩
    simp only [binOp, Op.shift, if_neg (show ¬ y < 0 by omega), IntKind.bits, Nat.min_eq_left hc, wrap_u8, wrap_u32, wrap_u64]; simp

theorem binA_ok {op : BinOp} {a b : AV} {c : Prop} {v : AV} {x y : Value} (hx : VRel G x a) (hy : VRel G y b) (h : binA nn op a b = some (c, v)) (hc : c) (t : TypeId) (xo yo : Operand) :
    ∃ r, VRel G r v ∧ ∀ w, (do eqGuard op t xo yo x y; binOp op t x y : Sem Value).run P w = .ok r w := by
  unfold binA at h
  split at h
  · rename_i k x' yk y'
    cases hx.int_inv; cases hy.int_inv
    split at h
    · rename_i c' v' hq
      simp only [Option.some.injEq, Prod.mk.injEq] at h; obtain ⟨rfl, rfl⟩ := h
      obtain ⟨r, h1, h2⟩ := shlA_ok (P := P) (G := G) (yk := yk) hq hc.2 hc.1 t
      exact ⟨r, h1, fun w => by simp [eqGuard_int, h2]⟩
    · cases h
  · rename_i k x' yk y'
    cases hx.int_inv; cases hy.int_inv
    simp only [Option.some.injEq, Prod.mk.injEq] at h; obtain ⟨rfl, rfl⟩ := h
    obtain ⟨h0, h1⟩ := hc
    exact ⟨_, .d _ _ (.int ..), fun w => by
      simp only [Sem.run_bind, eqGuard_int, Result.andThen_ok, binOp, Op.shift, if_neg (show ¬ y' < 0 by omega), Nat.min_eq_left h1]
      rw [Int.fdiv_eq_ediv_of_nonneg _ (Int.le_of_lt (Int.pow_pos (by omega)))]; simp⟩
  · rename_i op' k x' k' y' hns hns'
    cases hx.int_inv; cases hy.int_inv
    by_cases hk : k = k'
    · subst hk
      simp only [decide_true, cond_true] at h
      obtain ⟨r, h1, h2⟩ := intA_ok (P := P) (G := G) h hc (fun e => by subst e; simp at hns) (fun e => by subst e; simp at hns') t
      exact ⟨r, h1, fun w => by simp [eqGuard_int, h2]⟩
    · simp only [hk, decide_false, cond_false, reduceCtorEq] at h
  · rename_i s t'
    cases hx.str_inv; cases hy.str_inv
    simp only [Option.some.injEq, Prod.mk.injEq] at h; obtain ⟨rfl, rfl⟩ := h
    refine ⟨.string ⟨(s ++ t').toArray⟩, ?_, fun w => ?_⟩
    · have := DRel.str (imm := G.imm) ⟨(s ++ t').toArray⟩
      exact .d _ _ (by simpa using this)
    · simp only [Sem.run_bind, eqGuard_str, Result.andThen_ok, binOp, Op.stringOp]
      have hm : ¬ (((⟨s.toArray⟩ : ByteArray).size + (⟨t'.toArray⟩ : ByteArray).size : Nat) : Int) > IntKind.i64.max := by
        simp [ByteArray.size, IntKind.max, IntKind.signed, IntKind.bits]; omega
      rw [if_neg hm]
      simp only [Sem.run_pure]
      congr 2
  · rename_i s t'
    cases hx.str_inv; cases hy.str_inv
    simp only [Option.some.injEq, Prod.mk.injEq] at h; obtain ⟨rfl, rfl⟩ := h
    exact ⟨_, .d _ _ (.bool _), fun w => by simp only [Sem.run_bind, eqGuard_str, Result.andThen_ok, binOp, Op.stringOp, bytes_toList, Sem.run_pure, beqd]⟩
  · rename_i s t'
    cases hx.str_inv; cases hy.str_inv
    simp only [Option.some.injEq, Prod.mk.injEq] at h; obtain ⟨rfl, rfl⟩ := h
    exact ⟨_, .d _ _ (.bool _), fun w => by simp only [Sem.run_bind, eqGuard_str, Result.andThen_ok, binOp, Op.stringOp, bytes_toList, Sem.run_pure, beqd]⟩
  · cases h
end
end Go.Proofs.YtammpekpmjboiaaDoor.Av
