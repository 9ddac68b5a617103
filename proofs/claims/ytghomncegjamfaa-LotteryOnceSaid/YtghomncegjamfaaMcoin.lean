/- Plain law of coins: outputs, inputs, transactions, and how they are written and read. No program in sight. -/
import Derived.Test.YtghomncegjamfaaMnote
namespace Go.Proofs.Ytghomncegjamfaa
open Go.RowKit

structure Pnt where
  tx : ByteArray
  out : Int
  deriving DecidableEq
structure Inp where
  pt : Pnt
  path : Int
  sig : ByteArray
  deriving DecidableEq
structure Oup where
  kind : Int
  amount : Int
  key : ByteArray
  gate : ByteArray
  expiry : Int
  anchor : ByteArray
  unit : Int
  tokens : Int
  of : ByteArray
  deriving DecidableEq
structure Trx where
  ins : List Inp
  outs : List Oup
  pf : Pf
  deriving DecidableEq
abbrev Pnt.c (p : Pnt) : List Value := [.string p.tx, .int .i64 p.out]
abbrev Pnt.v (p : Pnt) : Value := .agg #[.string p.tx, .int .i64 p.out]
abbrev Inp.c (i : Inp) : List Value := [.string i.pt.tx, .int .i64 i.pt.out, .int .i64 i.path, .string i.sig]
abbrev Oup.c (o : Oup) : List Value := [.int .i64 o.kind, .int .u64 o.amount, .string o.key, .string o.gate, .int .i64 o.expiry, .string o.anchor, .int .u64 o.unit, .int .i64 o.tokens, .string o.of]
abbrev Trx.c (t : Trx) (a1 : Option Addr) (c1 : Nat) (a2 : Option Addr) (c2 : Nat) (a3 : Option Addr) (c3 : Nat) : List Value :=
  [.slice a1 t.ins.length c1, .slice a2 t.outs.length c2, .int .u64 t.pf.amount, .string t.pf.sig, .string t.pf.token, .slice a3 t.pf.wins.length c3]
structure Inp.Fit (i : Inp) : Prop where
  out : fits .i64 i.pt.out
  path : fits .i64 i.path
structure Oup.Fit (o : Oup) : Prop where
  kind : fits .i64 o.kind
  amount : fits .u64 o.amount
  expiry : fits .i64 o.expiry
  unit : fits .u64 o.unit
  tokens : fits .i64 o.tokens
structure Trx.Fit (t : Trx) : Prop where
  ins : ∀ i ∈ t.ins, i.Fit
  outs : ∀ o ∈ t.outs, o.Fit
  pf : t.pf.Fit
def inFits (i : Inp) : Bool := decide (i.pt.tx.size = 16 ∧ (0 ≤ i.pt.out ∧ i.pt.out ≤ 255) ∧ (1 ≤ i.path ∧ i.path ≤ 3) ∧ i.sig.size ≤ 400)
/-- The output of a kind, bare of what does not belong to it. -/
def ouBare (o : Oup) : Oup :=
  if o.kind = 2 then ⟨o.kind, o.amount, o.key, o.gate, o.expiry, o.anchor, o.unit, o.tokens, ⟨#[]⟩⟩
  else if o.kind = 3 then ⟨o.kind, o.amount, o.key, o.gate, o.expiry, ⟨#[]⟩, 0, 0, o.of⟩
  else ⟨o.kind, o.amount, o.key, ⟨#[]⟩, 0, ⟨#[]⟩, 0, 0, ⟨#[]⟩⟩
def ouGate (o : Oup) : Prop := o.gate.size = 16 ∧ 1 ≤ o.expiry ∧ o.expiry ≤ 4294967295
def ouKind (o : Oup) : Prop := (o.kind = 1) ∨ (o.kind = 2 ∧ (o.gate.size = 16 ∧ 1 ≤ o.expiry ∧ o.expiry ≤ 4294967295) ∧ o.anchor.size = 16 ∧ 0 ≤ o.tokens ∧ o.tokens ≤ 4096) ∨ (o.kind = 3 ∧ (o.gate.size = 16 ∧ 1 ≤ o.expiry ∧ o.expiry ≤ 4294967295) ∧ o.of.size = 16)
instance (o : Oup) : Decidable (ouKind o) := by unfold ouKind; infer_instance
def ouFits (o : Oup) : Bool := decide (0 < o.amount ∧ o.key.size = 16 ∧ ouKind o ∧ o = ouBare o)
def txRight (t : Trx) : Bool := decide ((∀ i ∈ t.ins, inFits i = true) ∧ (t.ins.map Inp.pt).Nodup ∧ (1 ≤ t.ins.length ∧ t.ins.length ≤ 4) ∧ (1 ≤ t.outs.length ∧ t.outs.length ≤ 4) ∧ (∀ o ∈ t.outs, ouFits o = true) ∧ pfRight t.pf = true)
theorem inFits_iff {i : Inp} : inFits i = true ↔ i.pt.tx.size = 16 ∧ (0 ≤ i.pt.out ∧ i.pt.out ≤ 255) ∧ (1 ≤ i.path ∧ i.path ≤ 3) ∧ i.sig.size ≤ 400 := decide_eq_true_iff
theorem ouFits_iff {o : Oup} : ouFits o = true ↔ 0 < o.amount ∧ o.key.size = 16 ∧ ouKind o ∧ o = ouBare o := decide_eq_true_iff
theorem txRight_iff {t : Trx} : txRight t = true ↔ (∀ i ∈ t.ins, inFits i = true) ∧ (t.ins.map Inp.pt).Nodup ∧ (1 ≤ t.ins.length ∧ t.ins.length ≤ 4) ∧ (1 ≤ t.outs.length ∧ t.outs.length ≤ 4) ∧ (∀ o ∈ t.outs, ouFits o = true) ∧ pfRight t.pf = true := decide_eq_true_iff
/-- A number that is none below 0. -/
def cntN (n : Int) : Int := if n < 0 then 0 else n
theorem cntN_fits {n : Int} (h : fits .i64 n) : fits .u64 (cntN n) := by
  unfold cntN
  simp only [fits] at *
  split <;> omega
def putOu (w : WS) (o : Oup) : WS :=
  if o.kind = 1 then wHash (wNum (wByte w o.kind) o.amount) o.key
  else if o.kind = 3 then wHash (wNum (wHash (wHash (wNum (wByte w o.kind) o.amount) o.key) o.gate) (cntN o.expiry)) o.of
  else wNum (wNum (wHash (wNum (wHash (wHash (wNum (wByte w o.kind) o.amount) o.key) o.gate) (cntN o.expiry)) o.anchor) o.unit) (cntN o.tokens)
theorem wle_ou {w : WS} {o : Oup} {a K : Nat} (h : w.1.size + (100 + a) ≤ K) : (putOu w o).1.size + a ≤ K := by
  unfold putOu
  split
  · apply wle_hash; apply wle_num; apply wle_byte; omega
  split
  · apply wle_hash; apply wle_num; apply wle_hash; apply wle_hash; apply wle_num; apply wle_byte; omega
  · apply wle_num; apply wle_num; apply wle_hash; apply wle_num; apply wle_hash; apply wle_hash; apply wle_num; apply wle_byte; omega
def putIn (w : WS) (i : Inp) : WS := wByte (wByte (wHash w i.pt.tx) i.pt.out) i.path
theorem wle_in {w : WS} {i : Inp} {a K : Nat} (h : w.1.size + (18 + a) ≤ K) : (putIn w i).1.size + a ≤ K := by
  unfold putIn
  apply wle_byte; apply wle_byte; apply wle_hash; omega
theorem fold_take {α β : Type} (f : β → α → β) {w : β} {l : List α} {i : Nat} (h : i < l.length) : (l.take (i + 1)).foldl f w = f ((l.take i).foldl f w) l[i] := by
  rw [List.take_succ_eq_append_getElem h, List.foldl_append]
  rfl
theorem wle_fold {α : Type} {f : WS → α → WS} {n : Nat} (hf : ∀ w x a K, w.1.size + (n + a) ≤ K → (f w x).1.size + a ≤ K) : ∀ (l : List α) {w : WS} {a K : Nat}, w.1.size + (n * l.length + a) ≤ K → (l.foldl f w).1.size + a ≤ K
  | [], w, a, K, h => by simp at *; omega
  | x :: l, w, a, K, h => wle_fold hf l (hf w x _ K (by rw [List.length_cons, Nat.mul_succ] at h; omega))
def txIns (t : Trx) : WS := t.ins.foldl putIn (wByte (wByte w0 67) t.ins.length)
def txPut (t : Trx) : WS := t.outs.foldl putOu (wByte (txIns t) t.outs.length)
def txCore (t : Trx) : ByteArray := if txRight t = true then wText (txPut t) else ⟨#[]⟩
def putSig (w : WS) (i : Inp) : WS := wBlob w i.sig
def txSigs (t : Trx) : WS := t.ins.foldl putSig (wBlob w0 (txCore t))
def txEnc (t : Trx) : ByteArray := if txRight t = true then wText (wBlob (txSigs t) (pfEnc t.pf)) else ⟨#[]⟩
/-- A number that is read for an int; -1: it is none. -/
def smal (n : Int) : Int := if 9223372036854775807 < n then -1 else n
def rdOu (S : ByteArray) (x : RS) : Oup × RS :=
  let k := byV S x; let x1 := byS S x; let a := nuV S x1; let x2 := nuS S x1; let key := haV S x2; let x3 := haS S x2
  if k = 1 then (⟨k, a, key, ⟨#[]⟩, 0, ⟨#[]⟩, 0, 0, ⟨#[]⟩⟩, x3)
  else if k = 3 then (⟨k, a, key, haV S x3, smal (nuV S (haS S x3)), ⟨#[]⟩, 0, 0, haV S (nuS S (haS S x3))⟩, haS S (nuS S (haS S x3)))
  else if k = 2 then (⟨k, a, key, haV S x3, smal (nuV S (haS S x3)), haV S (nuS S (haS S x3)), nuV S (haS S (nuS S (haS S x3))), smal (nuV S (nuS S (haS S (nuS S (haS S x3))))), ⟨#[]⟩⟩, nuS S (nuS S (haS S (nuS S (haS S x3)))))
  else (⟨k, a, key, ⟨#[]⟩, 0, ⟨#[]⟩, 0, 0, ⟨#[]⟩⟩, flS x3 4)
theorem rdOu_ok {S : ByteArray} {x : RS} (h : okR S x) : okR S (rdOu S x).2 := by
  have h3 := haS_ok (nuS_ok (byS_ok h))
  simp only [rdOu]
  split
  · exact h3
  split
  · exact haS_ok (nuS_ok (haS_ok h3))
  split
  · exact nuS_ok (nuS_ok (haS_ok (nuS_ok (haS_ok h3))))
  · exact flS_ok h3
/-- How many there are: of 1 to so many. -/
def manyV (S : ByteArray) (x : RS) (most : Int) : Int := if 1 ≤ byV S x ∧ byV S x ≤ most then byV S x else 0
def manyS (S : ByteArray) (x : RS) (most : Int) : RS := if 1 ≤ byV S x ∧ byV S x ≤ most then byS S x else flS (byS S x) 4
theorem manyS_ok {S : ByteArray} {x : RS} {m : Int} (h : okR S x) : okR S (manyS S x m) := by
  unfold manyS
  split
  · exact byS_ok h
  · exact flS_ok (byS_ok h)
def rdIn (S : ByteArray) (x : RS) : Inp × RS := (⟨⟨haV S x, byV S (haS S x)⟩, byV S (byS S (haS S x)), ⟨#[]⟩⟩, byS S (byS S (haS S x)))
theorem rdIn_ok {S : ByteArray} {x : RS} (h : okR S x) : okR S (rdIn S x).2 := byS_ok (byS_ok (haS_ok h))
/-- So many of a kind, one behind the other. -/
def rdMany {α : Type} (f : RS → α × RS) (x : RS) : Nat → List α × RS
  | 0 => ([], x)
  | n + 1 => ((rdMany f x n).1 ++ [(f (rdMany f x n).2).1], (f (rdMany f x n).2).2)
theorem rdMany_length {α : Type} (f : RS → α × RS) (x : RS) : ∀ n, (rdMany f x n).1.length = n
  | 0 => rfl
  | n + 1 => by show ((rdMany f x n).1 ++ [_]).length = _; rw [List.length_append, rdMany_length f x n]; rfl
theorem rdMany_ok {α : Type} {f : RS → α × RS} {S : ByteArray} (hf : ∀ y, okR S y → okR S (f y).2) {x : RS} (h : okR S x) : ∀ n, okR S (rdMany f x n).2
  | 0 => h
  | n + 1 => hf _ (rdMany_ok hf h n)
theorem rdMany_all {α : Type} {f : RS → α × RS} {P : α → Prop} (hf : ∀ y, P (f y).1) (x : RS) : ∀ n, ∀ z ∈ (rdMany f x n).1, P z
  | 0 => fun z hz => by cases hz
  | n + 1 => fun z hz => by
    rcases List.mem_append.1 hz with h | h
    · exact rdMany_all hf x n z h
    · rw [List.mem_singleton.1 h]; exact hf _
theorem smal_fits {n : Int} (h : 0 ≤ n) : fits .i64 (smal n) := by
  unfold smal
  simp only [fits]
  split <;> omega
end Go.Proofs.Ytghomncegjamfaa
