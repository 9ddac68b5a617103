/- The calculus, part three: the operations that yield a value and leave the world as it is. -/
import Derived.Test.YtghomncegjamfaaGreatJb
namespace Go.Proofs.YtghomncegjamfaaGreat
open Go.RowKit

/-! ### Types, by instances (a seat's table lays them) -/
class TStr (P : Program) (t : Nat) : Prop where h : P.underlying t = some .string
class TInt (P : Program) (t : Nat) (k : outParam IntKind) : Prop where h : P.underlying t = some (.int k)
class TBool (P : Program) (t : Nat) : Prop where h : P.underlying t = some .bool
class TSlice (P : Program) (t : Nat) (e : outParam Nat) : Prop where h : P.underlying t = some (.slice e)
class TArr (P : Program) (t : Nat) (m e : outParam Nat) : Prop where h : P.underlying t = some (.array m e)
class TPtr (P : Program) (t : Nat) (e : outParam Nat) : Prop where h : P.underlying t = some (.pointer e)
class TMap (P : Program) (t : Nat) (k e : outParam Nat) : Prop where h : P.underlying t = some (.map k e)
class TInfo (P : Program) (t : Nat) (size bytes : outParam Nat) (zs : outParam (List Value)) : Prop where
  h : ∃ i z, P.info? t = some i ∧ i.size = size ∧ i.bytes = bytes ∧ i.zero = some z ∧ z.cells = zs.toArray ∧ zs.length = size ∧ 0 < size
/-- A type of one cell. -/
class TCell (P : Program) (t : Nat) : Prop where h : ∀ w, (isAgg t).run P w = .ok false w ∧ (sizeOf t).run P w = .ok 1 w
/-- A struct or an array, of so many cells. -/
class TAgg (P : Program) (t : Nat) (size : outParam Nat) : Prop where h : ∀ w, (isAgg t).run P w = .ok true w ∧ (sizeOf t).run P w = .ok size w
/-- A struct's field, of one cell, where it lies. -/
class TField (P : Program) (s f : Nat) (off : outParam Nat) : Prop where
  h : ∀ w, ∃ fs fd, P.underlying s = some (.struct fs) ∧ fs[f]? = some fd ∧ fd.offset = off ∧ (isAgg fd.type).run P w = .ok false w ∧ ∀ a : Addr, (fieldPlace a fd).run P w = .ok (a.add off) w
/-- A struct's field that is a struct or an array. -/
class TFieldAgg (P : Program) (s f : Nat) (off size : outParam Nat) : Prop where
  h : ∀ w, ∃ fs fd, P.underlying s = some (.struct fs) ∧ fs[f]? = some fd ∧ fd.offset = off ∧ (isAgg fd.type).run P w = .ok true w ∧ (sizeOf fd.type).run P w = .ok size w ∧ ∀ a : Addr, (fieldPlace a fd).run P w = .ok (a.add off) w
def fsOf : Option TypeDesc → Array Field
  | some (.struct fs) => fs
  | _ => #[]
class HasBody (P : Program) (f : Nat) : Prop where h : ∀ args w, (callFunc f args).run P w = .ok (.enter f args) w
class Mixed (P : Program) : Prop where h : P.follows .mixedOrders = true

/-- In every frame and world of which this is known the operation yields v, and does nothing else. -/
def Yields (P : Program) (n : Nat) (E : Env) (W : World → Prop) (o : Oper) (v : Value) : Prop := ∀ a w, Holds n E a → W w → (execOp a.eval o).run P w = .ok (.value v) w

section
variable {P : Program} {n : Nat} {E : Env} {W : World → Prop} {Q : Exit → Act → World → Prop}
variable {d : Option Tmp} {ty T T' : Nat} {pos : String} {af : Array Edge} {g : Option (Nat × Bool)} {x y z : Operand} {v u : Value} {k k' : IntKind} {p q : Int} {s t : ByteArray}

theorem y_move (hx : ev E x = some v) : Yields P n E W ⟨d, .move x, ty, pos, af, g⟩ v := fun a w ha _ => by simp [execOp, ha.ev hx]
theorem y_assign (hx : ev E x = some v) : Yields P n E W ⟨d, .assign x, ty, pos, af, g⟩ v := fun a w ha _ => by simp [execOp, ha.ev hx]
theorem y_pick_true {c : Operand} (hc : ev E c = some (.bool true)) (hx : ev E x = some v) : Yields P n E W ⟨d, .pick c x y, ty, pos, af, g⟩ v := fun a w ha _ => by
  simp [execOp, ha.ev hx, ha.ev hc, asBool]
theorem y_pick_false {c : Operand} (hc : ev E c = some (.bool false)) (hy : ev E y = some v) : Yields P n E W ⟨d, .pick c x y, ty, pos, af, g⟩ v := fun a w ha _ => by
  simp [execOp, ha.ev hy, ha.ev hc, asBool]
theorem y_nilCheck {ad : Addr} (hx : ev E x = some (.pointer (some ad))) : Yields P n E W ⟨d, .nilCheck x, ty, pos, af, g⟩ (.pointer (some ad)) := fun a w ha _ => by
  simp [execOp, ha.ev hx]
theorem y_nilCheck_func {fn : Nat} {f c : Array Value} (hx : ev E x = some (.func (.func fn) f c)) : Yields P n E W ⟨d, .nilCheck x, ty, pos, af, g⟩ (.func (.func fn) f c) := fun a w ha _ => by
  simp [execOp, ha.ev hx]
theorem y_makeFunc {fn : Fn} {f c : Array Operand} {fs cs : List Value} (hf : evs E f.toList = some fs) (hc : evs E c.toList = some cs) : Yields P n E W ⟨d, .makeFunc fn f c, ty, pos, af, g⟩ (.func fn fs.toArray cs.toArray) := fun a w ha _ => by
  have h1 : f.map a.eval = fs.toArray := by apply Array.toList_inj.1; simpa using ha.evs hf
  have h2 : c.map a.eval = cs.toArray := by apply Array.toList_inj.1; simpa using ha.evs hc
  simp [execOp, Instr.makeFunc, h1, h2]
theorem y_extract {vs : Array Value} {i : Nat} (hx : ev E x = some (.tuple vs)) (hv : vs[i]? = some v) : Yields P n E W ⟨d, .extract x i, ty, pos, af, g⟩ v := fun a w ha _ => by
  simp [execOp, ha.ev hx, Instr.extract, hv]

theorem eqGuard_run {op : BinOp} {a b : Value} (w : World) (h : ∀ c, a ≠ .agg c) (h' : a ≠ .nilIface) : (eqGuard op T x y a b).run P w = .ok () w := by
  unfold eqGuard
  cases op <;> (cases a <;> cases b <;> first | rfl | exact absurd rfl h' | exact absurd rfl (h _))

/-- A string's byte. -/
def bAt (s : ByteArray) (i : Nat) : Nat := (s.data.toList[i]?.getD 0).toNat
theorem bAt_eq (s : ByteArray) (i : Nat) (h : i < s.size) : bAt s i = (s[i]'h).toNat := by
  unfold bAt
  have : s.data.toList[i]? = some (s.data[i]'h) := by rw [Array.getElem?_toList]; exact Array.getElem?_eq_getElem h
  rw [this]
  rfl
theorem bAt_lt (s : ByteArray) (i : Nat) : bAt s i < 256 := by unfold bAt; exact UInt8.toNat_lt _

/-! integers -/
theorem y_int {op : BinOp} {r : Value} (hx : ev E x = some (.int k p)) (hy : ev E y = some (.int k' q)) (hr : ∀ w, (binOp op T (.int k p) (.int k' q)).run P w = .ok r w) :
    Yields P n E W ⟨d, .binOp op T x y T', ty, pos, af, g⟩ r := fun a w ha _ => by
  simp [execOp, ha.ev hx, ha.ev hy, eqGuard_run, hr]
theorem y_add (hx : ev E x = some (.int k p)) (hy : ev E y = some (.int k q)) : Yields P n E W ⟨d, .binOp .add T x y T', ty, pos, af, g⟩ (.int k (k.wrap (p + q))) :=
  y_int hx hy fun w => by simp [binOp, Op.intArith]
theorem y_sub (hx : ev E x = some (.int k p)) (hy : ev E y = some (.int k q)) : Yields P n E W ⟨d, .binOp .sub T x y T', ty, pos, af, g⟩ (.int k (k.wrap (p - q))) :=
  y_int hx hy fun w => by simp [binOp, Op.intArith]
theorem y_mul (hx : ev E x = some (.int k p)) (hy : ev E y = some (.int k q)) : Yields P n E W ⟨d, .binOp .mul T x y T', ty, pos, af, g⟩ (.int k (k.wrap (p * q))) :=
  y_int hx hy fun w => by simp [binOp, Op.intArith]
/-- What a kind of integers holds. -/
def fits (k : IntKind) (p : Int) : Prop := match k with
  | .i8 => -128 ≤ p ∧ p ≤ 127
  | .i16 => -32768 ≤ p ∧ p ≤ 32767
  | .i32 => -2147483648 ≤ p ∧ p ≤ 2147483647
  | .i64 => -9223372036854775808 ≤ p ∧ p ≤ 9223372036854775807
  | .u8 => 0 ≤ p ∧ p ≤ 255
  | .u16 => 0 ≤ p ∧ p ≤ 65535
  | .u32 => 0 ≤ p ∧ p ≤ 4294967295
  | .u64 => 0 ≤ p ∧ p ≤ 18446744073709551615
theorem wrap_fits (h : fits k p) : k.wrap p = p := by
  cases k <;> (unfold fits at h; simp only [IntKind.wrap, IntKind.bits, IntKind.signed]; simp; try omega)
theorem wrap_u8 : IntKind.u8.wrap p = p % 256 := by simp [IntKind.wrap, IntKind.bits, IntKind.signed]
theorem wrap_u32 : IntKind.u32.wrap p = p % 4294967296 := by simp [IntKind.wrap, IntKind.bits, IntKind.signed]
theorem wrap_u64 : IntKind.u64.wrap p = p % 18446744073709551616 := by simp [IntKind.wrap, IntKind.bits, IntKind.signed]
theorem y_add_fits (hx : ev E x = some (.int k p)) (hy : ev E y = some (.int k q)) (h : fits k (p + q)) : Yields P n E W ⟨d, .binOp .add T x y T', ty, pos, af, g⟩ (.int k (p + q)) := by
  have := y_add (P := P) (n := n) (W := W) (T := T) (T' := T') (d := d) (ty := ty) (pos := pos) (af := af) (g := g) hx hy; rwa [wrap_fits h] at this
theorem y_sub_fits (hx : ev E x = some (.int k p)) (hy : ev E y = some (.int k q)) (h : fits k (p - q)) : Yields P n E W ⟨d, .binOp .sub T x y T', ty, pos, af, g⟩ (.int k (p - q)) := by
  have := y_sub (P := P) (n := n) (W := W) (T := T) (T' := T') (d := d) (ty := ty) (pos := pos) (af := af) (g := g) hx hy; rwa [wrap_fits h] at this
theorem y_mul_fits (hx : ev E x = some (.int k p)) (hy : ev E y = some (.int k q)) (h : fits k (p * q)) : Yields P n E W ⟨d, .binOp .mul T x y T', ty, pos, af, g⟩ (.int k (p * q)) := by
  have := y_mul (P := P) (n := n) (W := W) (T := T) (T' := T') (d := d) (ty := ty) (pos := pos) (af := af) (g := g) hx hy; rwa [wrap_fits h] at this
theorem y_add_u32 (hx : ev E x = some (.int .u32 p)) (hy : ev E y = some (.int .u32 q)) : Yields P n E W ⟨d, .binOp .add T x y T', ty, pos, af, g⟩ (.int .u32 ((p + q) % 4294967296)) := by
  have := y_add (P := P) (n := n) (W := W) (T := T) (T' := T') (d := d) (ty := ty) (pos := pos) (af := af) (g := g) hx hy; rwa [wrap_u32] at this
theorem y_mul_u32 (hx : ev E x = some (.int .u32 p)) (hy : ev E y = some (.int .u32 q)) : Yields P n E W ⟨d, .binOp .mul T x y T', ty, pos, af, g⟩ (.int .u32 ((p * q) % 4294967296)) := by
  have := y_mul (P := P) (n := n) (W := W) (T := T) (T' := T') (d := d) (ty := ty) (pos := pos) (af := af) (g := g) hx hy; rwa [wrap_u32] at this
theorem y_add_u64 (hx : ev E x = some (.int .u64 p)) (hy : ev E y = some (.int .u64 q)) : Yields P n E W ⟨d, .binOp .add T x y T', ty, pos, af, g⟩ (.int .u64 ((p + q) % 18446744073709551616)) := by
  have := y_add (P := P) (n := n) (W := W) (T := T) (T' := T') (d := d) (ty := ty) (pos := pos) (af := af) (g := g) hx hy; rwa [wrap_u64] at this
theorem y_sub_u64 (hx : ev E x = some (.int .u64 p)) (hy : ev E y = some (.int .u64 q)) : Yields P n E W ⟨d, .binOp .sub T x y T', ty, pos, af, g⟩ (.int .u64 ((p - q) % 18446744073709551616)) := by
  have := y_sub (P := P) (n := n) (W := W) (T := T) (T' := T') (d := d) (ty := ty) (pos := pos) (af := af) (g := g) hx hy; rwa [wrap_u64] at this
theorem y_mul_u64 (hx : ev E x = some (.int .u64 p)) (hy : ev E y = some (.int .u64 q)) : Yields P n E W ⟨d, .binOp .mul T x y T', ty, pos, af, g⟩ (.int .u64 ((p * q) % 18446744073709551616)) := by
  have := y_mul (P := P) (n := n) (W := W) (T := T) (T' := T') (d := d) (ty := ty) (pos := pos) (af := af) (g := g) hx hy; rwa [wrap_u64] at this
theorem y_quo (hx : ev E x = some (.int k p)) (hy : ev E y = some (.int k q)) (hp : 0 ≤ p) (hq : 0 < q) (hf : fits k (p / q)) : Yields P n E W ⟨d, .binOp .quo T x y T', ty, pos, af, g⟩ (.int k (p / q)) :=
  y_int hx hy fun w => by
    have : q ≠ 0 := by omega
    simp [binOp, Op.intDiv, this, Int.tdiv_eq_ediv_of_nonneg hp, wrap_fits hf]
theorem y_rem (hx : ev E x = some (.int k p)) (hy : ev E y = some (.int k q)) (hp : 0 ≤ p) (hq : 0 < q) : Yields P n E W ⟨d, .binOp .rem T x y T', ty, pos, af, g⟩ (.int k (p % q)) :=
  y_int hx hy fun w => by
    have : q ≠ 0 := by omega
    simp [binOp, Op.intDiv, this, Int.tmod_eq_emod_of_nonneg hp]
theorem y_tquo (hx : ev E x = some (.int k p)) (hy : ev E y = some (.int k q)) (hq : q ≠ 0) (hf : fits k (p.tdiv q)) : Yields P n E W ⟨d, .binOp .quo T x y T', ty, pos, af, g⟩ (.int k (p.tdiv q)) :=
  y_int hx hy fun w => by
    simp [binOp, Op.intDiv, hq, wrap_fits hf]
theorem y_trem (hx : ev E x = some (.int k p)) (hy : ev E y = some (.int k q)) (hq : q ≠ 0) : Yields P n E W ⟨d, .binOp .rem T x y T', ty, pos, af, g⟩ (.int k (p.tmod q)) :=
  y_int hx hy fun w => by
    simp [binOp, Op.intDiv, hq]
theorem y_and (hx : ev E x = some (.int k p)) (hy : ev E y = some (.int k q)) : Yields P n E W ⟨d, .binOp .and T x y T', ty, pos, af, g⟩ (.int k (bits .and k p q)) :=
  y_int hx hy fun w => by simp [binOp]; rfl
theorem y_or (hx : ev E x = some (.int k p)) (hy : ev E y = some (.int k q)) : Yields P n E W ⟨d, .binOp .or T x y T', ty, pos, af, g⟩ (.int k (bits .or k p q)) :=
  y_int hx hy fun w => by simp [binOp]; rfl
theorem y_xor (hx : ev E x = some (.int k p)) (hy : ev E y = some (.int k q)) : Yields P n E W ⟨d, .binOp .xor T x y T', ty, pos, af, g⟩ (.int k (bits .xor k p q)) :=
  y_int hx hy fun w => by simp [binOp]; rfl
theorem y_not_u32 (hx : ev E x = some (.int .u32 p)) : Yields P n E W ⟨d, .unOp .xor T x, ty, pos, af, g⟩ (.int .u32 (bits .xor .u32 4294967295 p)) := fun a w ha _ => by
  simp only [execOp, ha.ev hx]; rfl
theorem y_shl (hx : ev E x = some (.int k p)) (hy : ev E y = some (.int k' q)) (h0 : 0 ≤ q) (h1 : q ≤ k.bits) : Yields P n E W ⟨d, .binOp .shl T x y T', ty, pos, af, g⟩ (.int k (k.wrap (p * 2 ^ q.toNat))) :=
  y_int hx hy fun w => by simp [binOp, shift_shl k k' p q h0 h1]
theorem y_shr (hx : ev E x = some (.int k p)) (hy : ev E y = some (.int k' q)) (h0 : 0 ≤ q) (h1 : q ≤ k.bits) : Yields P n E W ⟨d, .binOp .shr T x y T', ty, pos, af, g⟩ (.int k (p / 2 ^ q.toNat)) :=
  y_int hx hy fun w => by simp [binOp, shift_shr k k' p q h0 h1]
theorem y_shl_u32 (hx : ev E x = some (.int .u32 p)) (hy : ev E y = some (.int k' q)) (h0 : 0 ≤ q) (h1 : q ≤ 32) : Yields P n E W ⟨d, .binOp .shl T x y T', ty, pos, af, g⟩ (.int .u32 (p * 2 ^ q.toNat % 4294967296)) := by
  have := y_shl (P := P) (n := n) (W := W) (T := T) (T' := T') (d := d) (ty := ty) (pos := pos) (af := af) (g := g) hx hy h0 h1; rwa [wrap_u32] at this
theorem y_shl_u64 (hx : ev E x = some (.int .u64 p)) (hy : ev E y = some (.int k' q)) (h0 : 0 ≤ q) (h1 : q ≤ 64) : Yields P n E W ⟨d, .binOp .shl T x y T', ty, pos, af, g⟩ (.int .u64 (p * 2 ^ q.toNat % 18446744073709551616)) := by
  have := y_shl (P := P) (n := n) (W := W) (T := T) (T' := T') (d := d) (ty := ty) (pos := pos) (af := af) (g := g) hx hy h0 h1; rwa [wrap_u64] at this
theorem y_shl_fits (hx : ev E x = some (.int k p)) (hy : ev E y = some (.int k' q)) (h0 : 0 ≤ q) (h1 : q ≤ k.bits) (h : fits k (p * 2 ^ q.toNat)) : Yields P n E W ⟨d, .binOp .shl T x y T', ty, pos, af, g⟩ (.int k (p * 2 ^ q.toNat)) := by
  have := y_shl (P := P) (n := n) (W := W) (T := T) (T' := T') (d := d) (ty := ty) (pos := pos) (af := af) (g := g) hx hy h0 h1; rwa [wrap_fits h] at this
theorem y_shr_by {m : Int} (hx : ev E x = some (.int k p)) (hy : ev E y = some (.int k' q)) (h0 : 0 ≤ q) (h1 : q ≤ k.bits) (hm : (2 : Int) ^ q.toNat = m) : Yields P n E W ⟨d, .binOp .shr T x y T', ty, pos, af, g⟩ (.int k (p / m)) := by
  subst hm; exact y_shr hx hy h0 h1
theorem y_shl_by_u32 {m : Int} (hx : ev E x = some (.int .u32 p)) (hy : ev E y = some (.int k' q)) (h0 : 0 ≤ q) (h1 : q ≤ 32) (hm : (2 : Int) ^ q.toNat = m) : Yields P n E W ⟨d, .binOp .shl T x y T', ty, pos, af, g⟩ (.int .u32 (p * m % 4294967296)) := by
  subst hm; exact y_shl_u32 hx hy h0 h1
theorem y_shl_by_u64 {m : Int} (hx : ev E x = some (.int .u64 p)) (hy : ev E y = some (.int k' q)) (h0 : 0 ≤ q) (h1 : q ≤ 64) (hm : (2 : Int) ^ q.toNat = m) : Yields P n E W ⟨d, .binOp .shl T x y T', ty, pos, af, g⟩ (.int .u64 (p * m % 18446744073709551616)) := by
  subst hm; exact y_shl_u64 hx hy h0 h1
theorem y_shl_by_fits {m : Int} (hx : ev E x = some (.int k p)) (hy : ev E y = some (.int k' q)) (h0 : 0 ≤ q) (h1 : q ≤ k.bits) (hm : (2 : Int) ^ q.toNat = m) (h : fits k (p * m)) : Yields P n E W ⟨d, .binOp .shl T x y T', ty, pos, af, g⟩ (.int k (p * m)) := by
  subst hm; exact y_shl_fits hx hy h0 h1 h
theorem y_lss (hx : ev E x = some (.int k p)) (hy : ev E y = some (.int k q)) : Yields P n E W ⟨d, .binOp .lss T x y T', ty, pos, af, g⟩ (.bool (decide (p < q))) :=
  y_int hx hy fun w => by simp [binOp, Op.intCmp]
theorem y_leq (hx : ev E x = some (.int k p)) (hy : ev E y = some (.int k q)) : Yields P n E W ⟨d, .binOp .leq T x y T', ty, pos, af, g⟩ (.bool (decide (p ≤ q))) :=
  y_int hx hy fun w => by simp [binOp, Op.intCmp]
theorem y_gtr (hx : ev E x = some (.int k p)) (hy : ev E y = some (.int k q)) : Yields P n E W ⟨d, .binOp .gtr T x y T', ty, pos, af, g⟩ (.bool (decide (q < p))) :=
  y_int hx hy fun w => by simp [binOp, Op.intCmp]
theorem y_geq (hx : ev E x = some (.int k p)) (hy : ev E y = some (.int k q)) : Yields P n E W ⟨d, .binOp .geq T x y T', ty, pos, af, g⟩ (.bool (decide (q ≤ p))) :=
  y_int hx hy fun w => by simp [binOp, Op.intCmp]
theorem y_eql (hx : ev E x = some (.int k p)) (hy : ev E y = some (.int k q)) : Yields P n E W ⟨d, .binOp .eql T x y T', ty, pos, af, g⟩ (.bool (decide (p = q))) :=
  y_int hx hy fun w => by simp [binOp, Op.intCmp]; rfl
theorem y_neq (hx : ev E x = some (.int k p)) (hy : ev E y = some (.int k q)) : Yields P n E W ⟨d, .binOp .neq T x y T', ty, pos, af, g⟩ (.bool (decide (p ≠ q))) :=
  y_int hx hy fun w => by
    simp [binOp, Op.intCmp, bne]
    by_cases h : p = q <;> simp [h]
theorem y_conv (hT : ∃ D, P.underlying T = some D) [hT' : TInt P T' k'] (hx : ev E x = some (.int k p)) : Yields P n E W ⟨d, .convert T T' x, ty, pos, af, g⟩ (.int k' (k'.wrap p)) := fun a w ha _ => by
  obtain ⟨D, hD⟩ := hT
  simp [execOp, ha.ev hx, convert, run_underlying hD, run_underlying hT'.h, Conv.intToInt]
theorem y_conv_fits [hT : TInt P T k] [hT' : TInt P T' k'] (hx : ev E x = some (.int k p)) (h : fits k' p) : Yields P n E W ⟨d, .convert T T' x, ty, pos, af, g⟩ (.int k' p) := by
  have := y_conv (P := P) (n := n) (W := W) (T := T) (T' := T') (k' := k') (d := d) (ty := ty) (pos := pos) (af := af) (g := g) ⟨_, hT.h⟩ hx; rwa [wrap_fits h] at this
theorem y_conv_u8 [hT : TInt P T k] [hT' : TInt P T' .u8] (hx : ev E x = some (.int k p)) : Yields P n E W ⟨d, .convert T T' x, ty, pos, af, g⟩ (.int .u8 (p % 256)) := by
  have := y_conv (P := P) (n := n) (W := W) (T := T) (T' := T') (k' := .u8) (d := d) (ty := ty) (pos := pos) (af := af) (g := g) ⟨_, hT.h⟩ hx; rwa [wrap_u8] at this
theorem y_conv_u64 [hT : TInt P T k] [hT' : TInt P T' .u64] (hx : ev E x = some (.int k p)) : Yields P n E W ⟨d, .convert T T' x, ty, pos, af, g⟩ (.int .u64 (p % 18446744073709551616)) := by
  have := y_conv (P := P) (n := n) (W := W) (T := T) (T' := T') (k' := .u64) (d := d) (ty := ty) (pos := pos) (af := af) (g := g) ⟨_, hT.h⟩ hx; rwa [wrap_u64] at this

/-! bools, pointers -/
theorem y_not {b : Bool} (hx : ev E x = some (.bool b)) : Yields P n E W ⟨d, .unOp .not T x, ty, pos, af, g⟩ (.bool (!b)) := fun a w ha _ => by
  simp [execOp, ha.ev hx, Op.unary]
theorem run_eql {a b : Value} {r : Bool} {w : World} (hb : binOp .eql T a b = (do pure (Value.bool (← Op.equal T a b)))) (h : (Op.equalIn (9999 + 1) T a b).run P w = .ok r w) : (binOp .eql T a b).run P w = .ok (.bool r) w := by
  rw [hb]
  unfold Op.equal Op.maxDepth
  rw [Sem.run_bind, h]
  rfl
theorem run_neq {a b : Value} {r : Bool} {w : World} (hb : binOp .neq T a b = (do pure (Value.bool (!(← Op.equal T a b))))) (h : (Op.equalIn (9999 + 1) T a b).run P w = .ok r w) : (binOp .neq T a b).run P w = .ok (.bool !r) w := by
  rw [hb]
  unfold Op.equal Op.maxDepth
  rw [Sem.run_bind, h]
  rfl
theorem equalIn_nil {e : Nat} [hT : TPtr P T e] (m : Nat) (r : Option Addr) (w : World) : (Op.equalIn (m + 1) T (.pointer r) (.pointer none)).run P w = .ok r.isNone w := by
  cases r <;> simp [Op.equalIn, run_underlying hT.h]
theorem y_eql_nil {e : Nat} {r : Option Addr} [hT : TPtr P T e] (hx : ev E x = some (.pointer r)) (hy : ev E y = some (.pointer none)) : Yields P n E W ⟨d, .binOp .eql T x y T', ty, pos, af, g⟩ (.bool r.isNone) := fun a w ha _ => by
  have h1 : (binOp .eql T (.pointer r) (.pointer none)).run P w = .ok (.bool r.isNone) w := run_eql rfl (equalIn_nil 9999 r w)
  simp [execOp, ha.ev hx, ha.ev hy, eqGuard_run, h1]
theorem y_neq_nil {e : Nat} {r : Option Addr} [hT : TPtr P T e] (hx : ev E x = some (.pointer r)) (hy : ev E y = some (.pointer none)) : Yields P n E W ⟨d, .binOp .neq T x y T', ty, pos, af, g⟩ (.bool !r.isNone) := fun a w ha _ => by
  have h1 : (binOp .neq T (.pointer r) (.pointer none)).run P w = .ok (.bool !r.isNone) w := run_neq rfl (equalIn_nil 9999 r w)
  simp [execOp, ha.ev hx, ha.ev hy, eqGuard_run, h1]
theorem equalIn_bool [hT : TBool P T] (m : Nat) (b c : Bool) (w : World) : (Op.equalIn (m + 1) T (.bool b) (.bool c)).run P w = .ok (b == c) w := by
  simp [Op.equalIn, run_underlying hT.h]
theorem y_eql_bool {b c : Bool} [hT : TBool P T] (hx : ev E x = some (.bool b)) (hy : ev E y = some (.bool c)) : Yields P n E W ⟨d, .binOp .eql T x y T', ty, pos, af, g⟩ (.bool (b == c)) := fun a w ha _ => by
  have h1 : (binOp .eql T (.bool b) (.bool c)).run P w = .ok (.bool (b == c)) w := run_eql rfl (equalIn_bool 9999 b c w)
  simp [execOp, ha.ev hx, ha.ev hy, eqGuard_run, h1]
theorem y_neq_bool {b c : Bool} [hT : TBool P T] (hx : ev E x = some (.bool b)) (hy : ev E y = some (.bool c)) : Yields P n E W ⟨d, .binOp .neq T x y T', ty, pos, af, g⟩ (.bool !(b == c)) := fun a w ha _ => by
  have h1 : (binOp .neq T (.bool b) (.bool c)).run P w = .ok (.bool !(b == c)) w := run_neq rfl (equalIn_bool 9999 b c w)
  simp [execOp, ha.ev hx, ha.ev hy, eqGuard_run, h1]

/-! strings -/
theorem y_str {op : BinOp} {r : Value} (hx : ev E x = some (.string s)) (hy : ev E y = some (.string t)) (hr : ∀ w, (Op.stringOp op s t).run P w = .ok r w) :
    Yields P n E W ⟨d, .binOp op T x y T', ty, pos, af, g⟩ r := fun a w ha _ => by
  have : (binOp op T (.string s) (.string t)).run P w = .ok r w := by cases op <;> exact hr w
  simp [execOp, ha.ev hx, ha.ev hy, eqGuard_run, this]
theorem y_concat (hx : ev E x = some (.string s)) (hy : ev E y = some (.string t)) (h : s.size + t.size ≤ 9223372036854775807) : Yields P n E W ⟨d, .binOp .add T x y T', ty, pos, af, g⟩ (.string (s ++ t)) :=
  y_str hx hy fun w => by
    have : ¬ ((s.size + t.size : Nat) : Int) > IntKind.i64.max := by simp [IntKind.max, IntKind.signed, IntKind.bits]; omega
    simp only [Op.stringOp, this, if_false]
    rfl
theorem toList_eq_iff : (s.toList == t.toList) = decide (s = t) := by
  by_cases h : s = t
  · subst h; simp
  · have : s.toList ≠ t.toList := fun e => h (by
      have h1 : s.data.toList = t.data.toList := by rw [← ByteArray.toList_eq, ← ByteArray.toList_eq]; exact e
      have h2 : s.data = t.data := Array.toList_inj.1 h1
      cases s; cases t; simp_all)
    simp [h, this]
theorem y_seql (hx : ev E x = some (.string s)) (hy : ev E y = some (.string t)) : Yields P n E W ⟨d, .binOp .eql T x y T', ty, pos, af, g⟩ (.bool (decide (s = t))) :=
  y_str hx hy fun w => by rw [← toList_eq_iff]; rfl
theorem y_sneq (hx : ev E x = some (.string s)) (hy : ev E y = some (.string t)) : Yields P n E W ⟨d, .binOp .neq T x y T', ty, pos, af, g⟩ (.bool (!decide (s = t))) :=
  y_str hx hy fun w => by rw [← toList_eq_iff]; rfl
theorem y_len_str [hT : TStr P T] (hx : ev E x = some (.string s)) : Yields P n E W ⟨d, .call { callee := .builtin .len, args := #[x], argTypes := #[T] }, ty, pos, af, g⟩ (.int .i64 s.size) := fun a w ha _ => by
  simp [execOp, resolve, invoke, builtin, ha.ev hx, Builtin.len_, run_underlying hT.h, goInt]
theorem y_len_slice {ad : Option Addr} {l c e : Nat} [hT : TSlice P T e] (hx : ev E x = some (.slice ad l c)) : Yields P n E W ⟨d, .call { callee := .builtin .len, args := #[x], argTypes := #[T] }, ty, pos, af, g⟩ (.int .i64 l) := fun a w ha _ => by
  simp [execOp, resolve, invoke, builtin, ha.ev hx, Builtin.len_, run_underlying hT.h, goInt]
theorem y_min (hx : ev E x = some (.int k p)) (hy : ev E y = some (.int k q)) : Yields P n E W ⟨d, .call { callee := .builtin .min, args := #[x, y], argTypes := #[T, T'] }, ty, pos, af, g⟩ (.int k (min p q)) := fun a w ha _ => by
  have : (if q < p then q else p) = min p q := by rw [Int.min_def]; split <;> split <;> omega
  simp [execOp, resolve, invoke, builtin, ha.ev hx, ha.ev hy, run_min_int2, this]
theorem y_max (hx : ev E x = some (.int k p)) (hy : ev E y = some (.int k q)) : Yields P n E W ⟨d, .call { callee := .builtin .max, args := #[x, y], argTypes := #[T, T'] }, ty, pos, af, g⟩ (.int k (max p q)) := fun a w ha _ => by
  have : (if q > p then q else p) = max p q := by rw [Int.max_def]; split <;> split <;> omega
  simp [execOp, resolve, invoke, builtin, ha.ev hx, ha.ev hy, run_max_int2, this]
theorem y_substr_hi [hT : TStr P T] (hx : ev E x = some (.string s)) (hy : ev E y = some (.int k p)) (h0 : 0 ≤ p) (h1 : p ≤ s.size) : Yields P n E W ⟨d, .slice T x none (some y) none, ty, pos, af, g⟩ (.string (s.extract 0 p.toNat)) := fun a w ha _ => by
  simp [execOp, ha.ev hx, ha.ev hy, Instr.sliceAt, Instr.slice, run_underlying hT.h, Instr.sliceBounds, Instr.sliceBound, asIntOf, h0, h1]
theorem y_substr_lo [hT : TStr P T] (hx : ev E x = some (.string s)) (hy : ev E y = some (.int k p)) (h0 : 0 ≤ p) (h1 : p ≤ s.size) : Yields P n E W ⟨d, .slice T x (some y) none none, ty, pos, af, g⟩ (.string (s.extract p.toNat s.size)) := fun a w ha _ => by
  simp [execOp, ha.ev hx, ha.ev hy, Instr.sliceAt, Instr.slice, run_underlying hT.h, Instr.sliceBounds, Instr.sliceBound, asIntOf, h0, h1]
theorem y_substr [hT : TStr P T] (hx : ev E x = some (.string s)) (hy : ev E y = some (.int k p)) (hz : ev E z = some (.int k' q)) (h0 : 0 ≤ p) (h1 : p ≤ q) (h2 : q ≤ s.size) : Yields P n E W ⟨d, .slice T x (some y) (some z) none, ty, pos, af, g⟩ (.string (s.extract p.toNat q.toNat)) := fun a w ha _ => by
  have h3 : 0 ≤ q := by omega
  have h4 : ¬ max q 0 < p := by omega
  simp [execOp, ha.ev hx, ha.ev hy, ha.ev hz, Instr.sliceAt, Instr.slice, run_underlying hT.h, Instr.sliceBounds, Instr.sliceBound, asIntOf, h0, h2, h3, h4]
theorem y_at_str [hT : TStr P T] (hx : ev E x = some (.string s)) (hy : ev E y = some (.int k p)) (h0 : 0 ≤ p) (h1 : p < s.size) : Yields P n E W ⟨d, .index T x y, ty, pos, af, g⟩ (.int .u8 (bAt s p.toNat)) := fun a w ha _ => by
  have h2 : p.toNat < s.size := by omega
  have h3 : s[p.toNat]? = some (s[p.toNat]'h2) := by simp [h2]
  simp [execOp, ha.ev hx, ha.ev hy, Instr.index, run_underlying hT.h, asIntOf, h0, h3, bAt_eq s _ h2]

/-! addresses, parts -/
theorem y_fieldAddr {f off b o : Nat} [hT : TField P T f off] (hx : ev E x = some (.pointer (some ⟨b, o, none⟩))) : Yields P n E W ⟨d, .fieldAddr T x f, ty, pos, af, g⟩ (.pointer (some ⟨b, o + off, none⟩)) := fun a w ha _ => by
  obtain ⟨fs, fd, h1, h2, h3, h4, h5⟩ := hT.h w
  have : (⟨b, o, none⟩ : Addr).add off = ⟨b, o + off, none⟩ := by unfold Addr.add; split <;> simp_all
  simp [execOp, ha.ev hx, Instr.fieldAt, run_underlying h1, h2, Instr.sureAddr, h5, this]
theorem y_fieldAddr_agg {f off size b o : Nat} [hT : TFieldAgg P T f off size] (hx : ev E x = some (.pointer (some ⟨b, o, none⟩))) : Yields P n E W ⟨d, .fieldAddr T x f, ty, pos, af, g⟩ (.pointer (some ⟨b, o + off, none⟩)) := fun a w ha _ => by
  obtain ⟨fs, fd, h1, h2, h3, h4, h5, h6⟩ := hT.h w
  have : (⟨b, o, none⟩ : Addr).add off = ⟨b, o + off, none⟩ := by unfold Addr.add; split <;> simp_all
  simp [execOp, ha.ev hx, Instr.fieldAt, run_underlying h1, h2, Instr.sureAddr, h6, this]
theorem y_field {f off : Nat} {cs : List Value} [hT : TField P T f off] (hx : ev E x = some (.agg cs.toArray)) (hv : cs[off]? = some v) : Yields P n E W ⟨d, .field T x f, ty, pos, af, g⟩ v := fun a w ha _ => by
  obtain ⟨fs, fd, h1, h2, h3, h4, h5⟩ := hT.h w
  simp [execOp, ha.ev hx, Instr.field, run_underlying h1, h2, part, h4, asAgg, h3, hv]
theorem y_field_agg {f off size : Nat} {cs us : List Value} [hT : TFieldAgg P T f off size] (hx : ev E x = some (.agg cs.toArray)) (hv : TakeAt off size cs us) : Yields P n E W ⟨d, .field T x f, ty, pos, af, g⟩ (.agg us.toArray) := fun a w ha _ => by
  obtain ⟨fs, fd, h1, h2, h3, h4, h5, h6⟩ := hT.h w
  have h7 := hv.eq.1
  simp [execOp, ha.ev hx, Instr.field, run_underlying h1, h2, part, h4, asAgg, h3, h5, h7]
theorem addr_add (b o m : Nat) : (⟨b, o, none⟩ : Addr).add m = ⟨b, o + m, none⟩ := by unfold Addr.add; split <;> simp_all
theorem y_indexAddr_slice {e b o l c : Nat} {size bytes : Nat} {zv : List Value} [hT : TSlice P T e] [hI : TInfo P e size bytes zv] (hx : ev E x = some (.slice (some ⟨b, o, none⟩) l c)) (hy : ev E y = some (.int k p)) (h0 : 0 ≤ p) (h1 : p < l) {off : Nat} (he : o + p.toNat * size = off) :
    Yields P n E W ⟨d, .indexAddr T x y, ty, pos, af, g⟩ (.pointer (some ⟨b, off, none⟩)) := fun a w ha _ => by
  subst he
  obtain ⟨i, z, hi, hs, _⟩ := hI.h
  simp [execOp, ha.ev hx, ha.ev hy, Instr.indexAt, run_underlying hT.h, asIntOf, h0, h1, sizeOf, typeInfo, hi, hs, addr_add]
theorem y_indexAddr_arr {m e b o : Nat} {size bytes : Nat} {zv : List Value} [hT : TArr P T m e] [hI : TInfo P e size bytes zv] (hx : ev E x = some (.pointer (some ⟨b, o, none⟩))) (hy : ev E y = some (.int k p)) (h0 : 0 ≤ p) (h1 : p < m) {off : Nat} (he : o + p.toNat * size = off) :
    Yields P n E W ⟨d, .indexAddr T x y, ty, pos, af, g⟩ (.pointer (some ⟨b, off, none⟩)) := fun a w ha _ => by
  subst he
  obtain ⟨i, z, hi, hs, _⟩ := hI.h
  simp [execOp, ha.ev hx, ha.ev hy, Instr.indexAt, Instr.sureAddr, run_underlying hT.h, asIntOf, h0, h1, sizeOf, typeInfo, hi, hs, addr_add]
theorem y_index_arr {m e : Nat} {cs : List Value} {bytes : Nat} {zv : List Value} [hT : TArr P T m e] [hI : TInfo P e 1 bytes zv] [hC : TCell P e] (hx : ev E x = some (.agg cs.toArray)) (hy : ev E y = some (.int k p)) (h0 : 0 ≤ p) (h1 : p < m) (hv : cs[p.toNat]? = some v) :
    Yields P n E W ⟨d, .index T x y, ty, pos, af, g⟩ v := fun a w ha _ => by
  obtain ⟨i, z, hi, hs, _⟩ := hI.h
  simp [execOp, ha.ev hx, ha.ev hy, Instr.index, run_underlying hT.h, asIntOf, h0, h1, sizeOf, typeInfo, hi, hs, part, (hC.h w).1, hv]

/-! loads -/
variable {w0 : World} {S : List Nat} {H : List HA}
theorem y_load_of {ad : Addr} [hC : TCell P T] (hx : ev E x = some (.pointer (some ad))) (hc : ∀ w, W w → w.cell? ad = some v) : Yields P n E W ⟨d, .load T x, ty, pos, af, g⟩ v := fun a w ha hw => by
  simp [execOp, ha.ev hx, Instr.loadAt, Instr.sureAddr, loadVar, (hC.h w).1, load, Sem.run, hc w hw]
theorem y_load {b off : Nat} {vs : List Value} [hC : TCell P T] (hx : ev E x = some (.pointer (some ⟨b, off, none⟩))) (hm : HA.cells b vs ∈ H) (hv : vs[off]? = some v) : Yields P n E (Hp w0 S H) ⟨d, .load T x, ty, pos, af, g⟩ v :=
  y_load_of hx fun w hw => ((hw.get hm : Cells w b vs).cell off).trans hv
theorem row_cell {w : World} {b m cap e size : Nat} {xs : List Value} (h : w.ownsRow 0 e size (.slice (some ⟨b, 0, none⟩) m cap) m xs) {off : Nat} (hv : xs[off]? = some v) : w.cell? ⟨b, off, none⟩ = some v := by
  have := World.ownsRow.cells h (g := b) rfl off v hv
  simpa [addr_add] using this
theorem y_load_row {b off m cap e size : Nat} {xs : List Value} [hC : TCell P T] (hx : ev E x = some (.pointer (some ⟨b, off, none⟩))) (hm : HA.row (some ⟨b, 0, none⟩) m cap e size xs ∈ H) (hv : xs[off]? = some v) : Yields P n E (Hp w0 S H) ⟨d, .load T x, ty, pos, af, g⟩ v :=
  y_load_of hx fun _ hw => row_cell (hw.get hm) hv
theorem y_load_old {ad : Addr} [hC : TCell P T] (hx : ev E x = some (.pointer (some ad))) (hc : w0.cell? ad = some v) (hS : ad.block ∉ S) : Yields P n E (Hp w0 S H) ⟨d, .load T x, ty, pos, af, g⟩ v :=
  y_load_of hx fun _ hw => hw.cell hc hS

theorem run_loadCells {w : World} {b : Nat} {us : List Value} : ∀ {o : Nat} {acc : Array Value} (i : Nat), (∀ j u, us[j]? = some u → w.cell? ⟨b, o + (i + j), none⟩ = some u) →
    (loadCellsFrom ⟨b, o, none⟩ i us.length acc).run P w = .ok (acc ++ us.toArray) w := by
  induction us with
  | nil => intro o acc i h; simp [loadCellsFrom]
  | cons u us ih =>
    intro o acc i h
    have h0 := h 0 u rfl
    have hr := ih (o := o) (acc := acc.push u) (i + 1) (fun j u' hj => by have := h (j + 1) u' (by simpa using hj); rwa [show i + (j + 1) = i + 1 + j by omega] at this)
    simp only [Nat.add_zero] at h0
    simp [loadCellsFrom, load, Sem.run, addr_add, h0, hr]
theorem y_loadAgg_of {b o size : Nat} {us : List Value} [hC : TAgg P T size] (hx : ev E x = some (.pointer (some ⟨b, o, none⟩))) (hl : us.length = size) (hc : ∀ w, W w → ∀ j u, us[j]? = some u → w.cell? ⟨b, o + j, none⟩ = some u) : Yields P n E W ⟨d, .load T x, ty, pos, af, g⟩ (.agg us.toArray) := fun a w ha hw => by
  have := run_loadCells (P := P) (w := w) (b := b) (us := us) (o := o) (acc := #[]) 0 (fun j u hj => by simpa using hc w hw j u hj)
  rw [hl] at this
  simp [execOp, ha.ev hx, Instr.loadAt, Instr.sureAddr, loadVar, hC.h w, loadCells, this]
theorem y_loadAgg {b off size : Nat} {vs us : List Value} [hC : TAgg P T size] (hx : ev E x = some (.pointer (some ⟨b, off, none⟩))) (hm : HA.cells b vs ∈ H) (hv : TakeAt off size vs us) : Yields P n E (Hp w0 S H) ⟨d, .load T x, ty, pos, af, g⟩ (.agg us.toArray) :=
  y_loadAgg_of hx (by rw [← hv.eq.1]; have := hv.eq.2; simp; omega) fun w hw j u hj => by
    rw [(hw.get hm : Cells w b vs).cell, ← hj, ← hv.eq.1, List.getElem?_take]
    have : j < us.length := (List.getElem?_eq_some_iff.1 hj).1
    have h2 : us.length = size := by rw [← hv.eq.1]; have := hv.eq.2; simp; omega
    rw [if_pos (by omega), List.getElem?_drop]
end

/-! ### The steps of a region -/
section
variable {P : Program} {n : Nat} {E : Env} {W : World → Prop} {Q : Exit → Act → World → Prop} {ops : Array Oper} {rest : List Oper} {o : Oper} {d : Nat} {v : Value}

theorem jl_nil (h : JQ n Q W .normal E) : JL P n Q W ops [] E := fun a w ha hw => wpList_nil (h a w ha hw)
theorem jl_y (hd : o.dst = some d) (hn : d < n) (hg : want ops E o = some true) (hy : Yields P n E W o v) (k : JL P n Q W ops rest ((d, v) :: E)) : JL P n Q W ops (o :: rest) E := fun a w ha hw =>
  wpList_step fun K hK => by
    rw [if_pos (want_spec ha hg)]
    unfold Oper.wp
    rw [hy a w ha hw, Oper.upon_value, hd]
    exact hK _ _ (k _ _ (ha.put hn v) hw)
theorem jl_skip (hd : o.dst = some d) (hn : d < n) (hg : want ops E o = some false) (k : JL P n Q W ops rest ((d, undef) :: E)) : JL P n Q W ops (o :: rest) E := fun a w ha hw =>
  wpList_step fun K hK => by
    rw [if_neg (by rw [want_spec ha hg]; simp), hd]
    exact hK _ _ (k _ _ (ha.put hn undef) hw)
theorem jl_skip_none (hd : o.dst = none) (hg : want ops E o = some false) (k : JL P n Q W ops rest E) : JL P n Q W ops (o :: rest) E := fun a w ha hw =>
  wpList_step fun K hK => by
    rw [if_neg (by rw [want_spec ha hg]; simp), hd]
    exact hK _ _ (k _ _ ha hw)
/-- A step that yields one of some values, and leaves a world of which something else is known. -/
def Makes {ι : Type} (P : Program) (n : Nat) (E : Env) (W : World → Prop) (o : Oper) (v : ι → Value) (W' : ι → World → Prop) : Prop :=
  ∀ a w, Holds n E a → W w → ∃ i w', (execOp a.eval o).run P w = .ok (.value (v i)) w' ∧ W' i w'
theorem jl_m {ι : Type} {v : ι → Value} {W' : ι → World → Prop} (hd : o.dst = some d) (hn : d < n) (hg : want ops E o = some true) (hy : Makes P n E W o v W') (k : ∀ i, JL P n Q (W' i) ops rest ((d, v i) :: E)) : JL P n Q W ops (o :: rest) E := fun a w ha hw =>
  wpList_step fun K hK => by
    rw [if_pos (want_spec ha hg)]
    obtain ⟨i, w', hr, hw'⟩ := hy a w ha hw
    unfold Oper.wp
    rw [hr, Oper.upon_value, hd]
    exact hK _ _ (k i _ _ (ha.put hn _) hw')
def Makes2 {ι κ : Type} (P : Program) (n : Nat) (E : Env) (W : World → Prop) (o : Oper) (v : ι → κ → Value) (W' : ι → κ → World → Prop) : Prop :=
  ∀ a w, Holds n E a → W w → ∃ i j w', (execOp a.eval o).run P w = .ok (.value (v i j)) w' ∧ W' i j w'
def Makes3 {ι κ μ : Type} (P : Program) (n : Nat) (E : Env) (W : World → Prop) (o : Oper) (v : ι → κ → μ → Value) (W' : ι → κ → μ → World → Prop) : Prop :=
  ∀ a w, Holds n E a → W w → ∃ i j l w', (execOp a.eval o).run P w = .ok (.value (v i j l)) w' ∧ W' i j l w'
theorem jl_m2 {ι κ : Type} {v : ι → κ → Value} {W' : ι → κ → World → Prop} (hd : o.dst = some d) (hn : d < n) (hg : want ops E o = some true) (hy : Makes2 P n E W o v W') (k : ∀ i j, JL P n Q (W' i j) ops rest ((d, v i j) :: E)) : JL P n Q W ops (o :: rest) E :=
  jl_m (ι := ι × κ) (v := fun i => v i.1 i.2) (W' := fun i => W' i.1 i.2) hd hn hg (fun a w ha hw => let ⟨i, j, w', h⟩ := hy a w ha hw; ⟨(i, j), w', h⟩) fun i => k i.1 i.2
theorem jl_m3 {ι κ μ : Type} {v : ι → κ → μ → Value} {W' : ι → κ → μ → World → Prop} (hd : o.dst = some d) (hn : d < n) (hg : want ops E o = some true) (hy : Makes3 P n E W o v W') (k : ∀ i j l, JL P n Q (W' i j l) ops rest ((d, v i j l) :: E)) : JL P n Q W ops (o :: rest) E :=
  jl_m (ι := ι × κ × μ) (v := fun i => v i.1 i.2.1 i.2.2) (W' := fun i => W' i.1 i.2.1 i.2.2) hd hn hg (fun a w ha hw => let ⟨i, j, l, w', h⟩ := hy a w ha hw; ⟨(i, j, l), w', h⟩) fun i => k i.1 i.2.1 i.2.2
/-- A store. -/
def Writes (P : Program) (n : Nat) (E : Env) (W : World → Prop) (o : Oper) (W' : World → Prop) : Prop :=
  ∀ a w, Holds n E a → W w → ∃ w', (execOp a.eval o).run P w = .ok .skip w' ∧ W' w'
theorem jl_w {W' : World → Prop} (hd : o.dst = none) (hg : want ops E o = some true) (hy : Writes P n E W o W') (k : JL P n Q W' ops rest E) : JL P n Q W ops (o :: rest) E := fun a w ha hw =>
  wpList_step fun K hK => by
    rw [if_pos (want_spec ha hg)]
    obtain ⟨w', hr, hw'⟩ := hy a w ha hw
    unfold Oper.wp
    rw [hr, Oper.upon_skip, hd]
    exact hK _ _ (k _ _ ha hw')
theorem jl_weaken {F : Env} (hk : Knows E F) (h : JL P n Q W ops rest F) : JL P n Q W ops rest E := fun a w ha hw => h a w (ha.weaken hk) hw
theorem jl_world {W' : World → Prop} (hk : ∀ w, W w → W' w) (h : JL P n Q W' ops rest E) : JL P n Q W ops rest E := fun a w ha hw => h a w ha (hk w hw)
/-- The newest slot's value, spelled otherwise. -/
theorem jl_as {u : Value} (e : v = u) (h : JL P n Q W ops rest ((d, u) :: E)) : JL P n Q W ops rest ((d, v) :: E) := e ▸ h
/-- Part on the newest slot's bool. -/
theorem jl_bool {b : Bool} (h1 : b = true → JL P n Q W ops rest ((d, .bool true) :: E)) (h2 : b = false → JL P n Q W ops rest ((d, .bool false) :: E)) : JL P n Q W ops rest ((d, .bool b) :: E) := by
  cases b
  · exact h2 rfl
  · exact h1 rfl
theorem jl_prop {p : Prop} [Decidable p] (h1 : p → JL P n Q W ops rest ((d, .bool true) :: E)) (h2 : ¬ p → JL P n Q W ops rest ((d, .bool false) :: E)) : JL P n Q W ops rest ((d, .bool (decide p)) :: E) :=
  jl_bool (fun h => h1 (of_decide_eq_true h)) (fun h => h2 (of_decide_eq_false h))

/-! a region that draws its order -/
theorem jc_draw [Mixed P] {id : Nat} {l : List Oper} (hB : Region.lexB .any l.toArray = true) (hC : ∀ w, W w → W w.drew) (h : JU P n Q W l.toArray l E) : JC P n Q W (.region id l.toArray true) E := fun a w ha hw =>
  wp_region_quiet (C := W) Mixed.h hB (hC w hw) (by simpa using h a ha)
theorem ju_nil (h : JQ n Q W .normal E) : JU P n Q W ops [] E := fun a ha => wpQuiet_nil (fun w hw => h a w ha hw)
theorem ju_y (hd : o.dst = some d) (hn : d < n) (hg : want ops E o = some true) (hy : Yields P n E W o v) (k : JU P n Q W ops rest ((d, v) :: E)) : JU P n Q W ops (o :: rest) E := fun a ha =>
  wpQuiet_step fun K hK => by
    rw [if_pos (want_spec ha hg)]
    refine ⟨v, fun w hw => ?_, ?_⟩
    · unfold Oper.quietAt
      rw [hy a w ha hw]
      exact ⟨rfl, rfl⟩
    · rw [hd]; exact hK _ (k _ (ha.put hn v))
theorem ju_skip (hd : o.dst = some d) (hn : d < n) (hg : want ops E o = some false) (k : JU P n Q W ops rest ((d, undef) :: E)) : JU P n Q W ops (o :: rest) E := fun a ha =>
  wpQuiet_step fun K hK => by
    rw [if_neg (by rw [want_spec ha hg]; simp), hd]
    exact hK _ (k _ (ha.put hn undef))
theorem ju_as {u : Value} (e : v = u) (h : JU P n Q W ops rest ((d, u) :: E)) : JU P n Q W ops rest ((d, v) :: E) := e ▸ h
theorem ju_bool {b : Bool} (h1 : b = true → JU P n Q W ops rest ((d, .bool true) :: E)) (h2 : b = false → JU P n Q W ops rest ((d, .bool false) :: E)) : JU P n Q W ops rest ((d, .bool b) :: E) := by
  cases b
  · exact h2 rfl
  · exact h1 rfl
theorem ju_prop {p : Prop} [Decidable p] (h1 : p → JU P n Q W ops rest ((d, .bool true) :: E)) (h2 : ¬ p → JU P n Q W ops rest ((d, .bool false) :: E)) : JU P n Q W ops rest ((d, .bool (decide p)) :: E) :=
  ju_bool (fun h => h1 (of_decide_eq_true h)) (fun h => h2 (of_decide_eq_false h))

/-! what is known besides -/
theorem jl_and {p : Prop} (h : p → JL P n Q W ops rest E) : JL P n Q (fun w => p ∧ W w) ops rest E := fun a w ha hw => h hw.1 a w ha hw.2
theorem jc_and {p : Prop} {c : Code} (h : p → JC P n Q W c E) : JC P n Q (fun w => p ∧ W w) c E := fun a w ha hw => h hw.1 a w ha hw.2
theorem jc_exw {ι : Type} {c : Code} {W' : ι → World → Prop} (h : ∀ i, JC P n Q (W' i) c E) : JC P n Q (fun w => ∃ i, W' i w) c E := fun a w ha hw => let ⟨i, hw⟩ := hw; h i a w ha hw

/-! calls -/
/-- To which function an operation goes, with which arguments. -/
def Goes (P : Program) (n : Nat) (E : Env) (o : Oper) (f : Nat) (args : Array Value) : Prop := ∀ a w, Holds n E a → (execOp a.eval o).run P w = .ok (.enter f args) w
theorem goes_func {f : Nat} {xs : Array Operand} {ts : Array TypeId} {vs : List Value} {dd : Option Tmp} {ty : Nat} {pos : String} {af : Array Edge} {g : Option (Nat × Bool)} [hb : HasBody P f] (hx : evs E xs.toList = some vs) :
    Goes P n E ⟨dd, .call { callee := .value (.func f), args := xs, argTypes := ts }, ty, pos, af, g⟩ f vs.toArray := fun a w ha => by
  have h1 : xs.map a.eval = vs.toArray := by apply Array.toList_inj.1; simpa using ha.evs hx
  simp [execOp, resolve, Act.eval, h1, Deferred.ofValue, invoke, hb.h]
theorem goes_value {x : Operand} {f : Nat} {c : List Value} {xs : Array Operand} {ts : Array TypeId} {vs : List Value} {dd : Option Tmp} {ty : Nat} {pos : String} {af : Array Edge} {g : Option (Nat × Bool)} [hb : HasBody P f] (hf : ev E x = some (.func (.func f) #[] c.toArray)) (hx : evs E xs.toList = some vs) :
    Goes P n E ⟨dd, .call { callee := .value x, args := xs, argTypes := ts }, ty, pos, af, g⟩ f (vs ++ c).toArray := fun a w ha => by
  have h1 : xs.map a.eval = vs.toArray := by apply Array.toList_inj.1; simpa using ha.evs hx
  simp [execOp, resolve, ha.ev hf, h1, Deferred.ofValue, invoke, hb.h]
theorem jl_call {ι : Type} {f : Nat} {args : Array Value} {v : ι → Value} {W' : ι → World → Prop} (hd : o.dst = some d) (hn : d < n) (hg : want ops E o = some true) (hf : Goes P n E o f args)
    (hc : ∀ w, W w → Calls P f args w fun e w' => ∃ i, e = .returned (v i) ∧ W' i w') (k : ∀ i, JL P n Q (W' i) ops rest ((d, v i) :: E)) : JL P n Q W ops (o :: rest) E := fun a w ha hw =>
  wpList_step fun K hK => by
    rw [if_pos (want_spec ha hg)]
    unfold Oper.wp
    rw [hf a w ha, Oper.upon_enter]
    refine (hc w hw).mono ?_
    rintro e w' ⟨i, rfl, hw'⟩
    rw [hd]
    exact hK _ _ (k i _ _ (ha.put hn _) hw')
theorem jl_pcall {f : Nat} {args : Array Value} (hd : o.dst = some d) (hn : d < n) (hg : want ops E o = some true) (hf : Goes P n E o f args)
    (hc : ∀ w, W w → Calls P f args w fun e w' => e = .returned v ∧ W w') (k : JL P n Q W ops rest ((d, v) :: E)) : JL P n Q W ops (o :: rest) E :=
  jl_call (ι := Unit) (v := fun _ => v) (W' := fun _ => W) hd hn hg hf (fun w hw => (hc w hw).mono fun _ _ h => ⟨(), h⟩) fun _ => k
theorem pcall {f : Nat} {args : Array Value} {w0 w : World} {S : List Nat} {H : List HA} (hw : Hp w0 S H w) (h : Calls P f args w fun e w' => e = .returned v ∧ Ch [] w w') : Calls P f args w fun e w' => e = .returned v ∧ Hp w0 S H w' :=
  h.mono fun _ _ ⟨he, hc⟩ => ⟨he, hw.pure hc⟩
theorem ju_call {f : Nat} {args : Array Value} (hd : o.dst = some d) (hn : d < n) (hg : want ops E o = some true) (hf : Goes P n E o f args)
    (hc : ∀ w, W w → Calls P f args w fun e w' => e = .returned v ∧ W w') (k : JU P n Q W ops rest ((d, v) :: E)) : JU P n Q W ops (o :: rest) E := fun a ha =>
  wpQuiet_step fun K hK => by
    rw [if_pos (want_spec ha hg)]
    refine ⟨v, fun w hw => ?_, ?_⟩
    · unfold Oper.quietAt
      rw [hf a w ha]
      exact ⟨rfl, hc w hw⟩
    · rw [hd]; exact hK _ (k _ (ha.put hn v))
end

/-! ### A function's end -/
section
variable {P : Program} {n : Nat} {E : Env} {W : World → Prop} {fn : Func} {R : Ending → World → Prop}
theorem jq_ret0 (hr : fn.results = #[]) (h : ∀ w, W w → R (.returned (.tuple #[])) w) : JQ n (bodyPost P fn R) W .ret E := fun _ w ha hw =>
  bodyPost_ret (results_none hr _ _ _) ha.nodef (h w hw)
theorem jq_end0 (hr : fn.results = #[]) (h : ∀ w, W w → R (.returned (.tuple #[])) w) : JQ n (bodyPost P fn R) W .normal E := fun _ w ha hw =>
  bodyPost_end (results_none hr _ _ _) ha.nodef (h w hw)
theorem getD_of {a : Act} (ha : Holds n E a) {t : Nat} {v : Value} (h : lk E t = some v) : a.tmps.getD t undef = v := by
  have := ha.slot t v h
  simp [Array.getD_eq_getD_getElem?, this]
theorem jq_ret1 {t : Nat} {v : Value} (hr : fn.results = #[.tmp t]) (ht : lk E t = some v) (h : ∀ w, W w → R (.returned v) w) : JQ n (bodyPost P fn R) W .ret E := fun a w ha hw =>
  bodyPost_ret (results_tmp hr _ _ _) ha.nodef (by rw [getD_of ha ht]; exact h w hw)
theorem jq_ret2 {t t' : Nat} {v v' : Value} (hr : fn.results = #[.tmp t, .tmp t']) (ht : lk E t = some v) (ht' : lk E t' = some v') (h : ∀ w, W w → R (.returned (.tuple #[v, v'])) w) : JQ n (bodyPost P fn R) W .ret E := fun a w ha hw =>
  bodyPost_ret (results_tmp2 hr _ _ _) ha.nodef (by rw [getD_of ha ht, getD_of ha ht']; exact h w hw)
theorem jq_ret3 {t1 t2 t3 : Nat} {v1 v2 v3 : Value} (hr : fn.results = #[.tmp t1, .tmp t2, .tmp t3]) (h1 : lk E t1 = some v1) (h2 : lk E t2 = some v2) (h3 : lk E t3 = some v3) (h : ∀ w, W w → R (.returned (.tuple #[v1, v2, v3])) w) : JQ n (bodyPost P fn R) W .ret E := fun a w ha hw =>
  bodyPost_ret (v := .tuple #[v1, v2, v3]) (by
    have e1 := getD_of ha h1; have e2 := getD_of ha h2; have e3 := getD_of ha h3
    simp only [Array.getD_eq_getD_getElem?] at e1 e2 e3
    simp [results, hr, e1, e2, e3]) ha.nodef (h w hw)
theorem jq_ret4 {t1 t2 t3 t4 : Nat} {v1 v2 v3 v4 : Value} (hr : fn.results = #[.tmp t1, .tmp t2, .tmp t3, .tmp t4]) (h1 : lk E t1 = some v1) (h2 : lk E t2 = some v2) (h3 : lk E t3 = some v3) (h4 : lk E t4 = some v4) (h : ∀ w, W w → R (.returned (.tuple #[v1, v2, v3, v4])) w) : JQ n (bodyPost P fn R) W .ret E := fun a w ha hw =>
  bodyPost_ret (v := .tuple #[v1, v2, v3, v4]) (by
    have e1 := getD_of ha h1; have e2 := getD_of ha h2; have e3 := getD_of ha h3; have e4 := getD_of ha h4
    simp only [Array.getD_eq_getD_getElem?] at e1 e2 e3 e4
    simp [results, hr, e1, e2, e3, e4]) ha.nodef (h w hw)
end

/-! ### A function's beginning -/
def envOf : Nat → List Value → Env
  | _, [] => []
  | k, v :: vs => (k, v) :: envOf (k + 1) vs
theorem lk_envOf : ∀ (vs : List Value) (k i : Nat) (v : Value), lk (envOf k vs) i = some v → k ≤ i ∧ vs[i - k]? = some v
  | [], k, i, v, h => by cases h
  | u :: vs, k, i, v, h => by
    unfold envOf lk at h
    cases hb : Nat.beq k i
    · rw [hb] at h
      have := lk_envOf vs (k + 1) i v h
      refine ⟨by omega, ?_⟩
      rw [show i - k = (i - (k + 1)) + 1 by omega]
      simpa using this.2
    · rw [hb] at h
      have := Nat.eq_of_beq_eq_true hb
      subst this
      exact ⟨Nat.le_refl _, by simpa using h⟩
theorem calls_of {P : Program} {f : FuncId} {fn : Func} {c : Code} {args : List Value} {w0 : World} {R : Ending → World → Prop} {n : Nat} {E : Env} {W : World → Prop}
    (hf : P.funcs[f]? = some fn) (hb : fn.body = some c) (hn : fn.ntmps = n) (hle : args.length ≤ n) (hE : envOf 0 args = E) (hW : W w0)
    (h : JC P n (bodyPost P fn R) W c E) : Calls P f args.toArray w0 R :=
  calls_of_wp hf hb (h _ _ ⟨rfl, by simp; omega, fun i v hi => by
    have h1 : args[i]? = some v := by subst hE; simpa using (lk_envOf args 0 i v hi).2
    have h2 : i < args.length := (List.getElem?_eq_some_iff.1 h1).1
    simp [Array.getElem?_append, h2]
    exact (List.getElem?_eq_some_iff.1 h1).2⟩ hW)
end Go.Proofs.YtghomncegjamfaaGreat
