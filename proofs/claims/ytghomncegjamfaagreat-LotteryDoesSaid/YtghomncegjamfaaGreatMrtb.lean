/- Plain law of coins and proofs: what is written, as bytes; what is read of them. No program in sight. -/
import Derived.Test.YtghomncegjamfaaGreatMnote
import Derived.Test.YtghomncegjamfaaGreatMrta
namespace Go.Proofs.YtghomncegjamfaaGreat
open Go.RowKit

structure Pnt where
  tx : ByteArray
  out : Int
  deriving DecidableEq
structure Inp where
  pt : Pnt
  path : Int
  sig : ByteArray
  deriving DecidableEq
structure Oup where
  kind : Int
  amount : Int
  key : ByteArray
  gate : ByteArray
  expiry : Int
  anchor : ByteArray
  unit : Int
  tokens : Int
  of : ByteArray
  deriving DecidableEq
structure Trx where
  ins : List Inp
  outs : List Oup
  pf : Pf
  deriving DecidableEq
abbrev Pnt.c (p : Pnt) : List Value := [.string p.tx, .int .i64 p.out]
abbrev Pnt.v (p : Pnt) : Value := .agg #[.string p.tx, .int .i64 p.out]
abbrev Inp.c (i : Inp) : List Value := [.string i.pt.tx, .int .i64 i.pt.out, .int .i64 i.path, .string i.sig]
abbrev Oup.c (o : Oup) : List Value := [.int .i64 o.kind, .int .u64 o.amount, .string o.key, .string o.gate, .int .i64 o.expiry, .string o.anchor, .int .u64 o.unit, .int .i64 o.tokens, .string o.of]
abbrev Trx.c (t : Trx) (a1 : Option Addr) (c1 : Nat) (a2 : Option Addr) (c2 : Nat) (a3 : Option Addr) (c3 : Nat) : List Value :=
  [.slice a1 t.ins.length c1, .slice a2 t.outs.length c2, .int .u64 t.pf.amount, .string t.pf.sig, .string t.pf.token, .slice a3 t.pf.wins.length c3]
structure Inp.Fit (i : Inp) : Prop where
  out : fits .i64 i.pt.out
  path : fits .i64 i.path
structure Oup.Fit (o : Oup) : Prop where
  kind : fits .i64 o.kind
  amount : fits .u64 o.amount
  expiry : fits .i64 o.expiry
  unit : fits .u64 o.unit
  tokens : fits .i64 o.tokens
structure Trx.Fit (t : Trx) : Prop where
  ins : ∀ i ∈ t.ins, i.Fit
  outs : ∀ o ∈ t.outs, o.Fit
  pf : t.pf.Fit
def inFits (i : Inp) : Bool := decide (i.pt.tx.size = 16 ∧ (0 ≤ i.pt.out ∧ i.pt.out ≤ 255) ∧ (1 ≤ i.path ∧ i.path ≤ 3) ∧ i.sig.size ≤ 400)
/-- The output of a kind, bare of what does not belong to it. -/
def ouBare (o : Oup) : Oup :=
  if o.kind = 2 then ⟨o.kind, o.amount, o.key, o.gate, o.expiry, o.anchor, o.unit, o.tokens, ⟨#[]⟩⟩
  else if o.kind = 3 then ⟨o.kind, o.amount, o.key, o.gate, o.expiry, ⟨#[]⟩, 0, 0, o.of⟩
  else ⟨o.kind, o.amount, o.key, ⟨#[]⟩, 0, ⟨#[]⟩, 0, 0, ⟨#[]⟩⟩
def ouGate (o : Oup) : Prop := o.gate.size = 16 ∧ 1 ≤ o.expiry ∧ o.expiry ≤ 4294967295
def ouKind (o : Oup) : Prop := (o.kind = 1) ∨ (o.kind = 2 ∧ (o.gate.size = 16 ∧ 1 ≤ o.expiry ∧ o.expiry ≤ 4294967295) ∧ o.anchor.size = 16 ∧ 0 ≤ o.tokens ∧ o.tokens ≤ 4096) ∨ (o.kind = 3 ∧ (o.gate.size = 16 ∧ 1 ≤ o.expiry ∧ o.expiry ≤ 4294967295) ∧ o.of.size = 16)
instance (o : Oup) : Decidable (ouKind o) := by unfold ouKind; infer_instance
def ouFits (o : Oup) : Bool := decide (0 < o.amount ∧ o.key.size = 16 ∧ ouKind o ∧ o = ouBare o)
def txRight (t : Trx) : Bool := decide ((∀ i ∈ t.ins, inFits i = true) ∧ (t.ins.map Inp.pt).Nodup ∧ (1 ≤ t.ins.length ∧ t.ins.length ≤ 4) ∧ (1 ≤ t.outs.length ∧ t.outs.length ≤ 4) ∧ (∀ o ∈ t.outs, ouFits o = true) ∧ pfRight t.pf = true)
theorem inFits_iff {i : Inp} : inFits i = true ↔ i.pt.tx.size = 16 ∧ (0 ≤ i.pt.out ∧ i.pt.out ≤ 255) ∧ (1 ≤ i.path ∧ i.path ≤ 3) ∧ i.sig.size ≤ 400 := decide_eq_true_iff
theorem ouFits_iff {o : Oup} : ouFits o = true ↔ 0 < o.amount ∧ o.key.size = 16 ∧ ouKind o ∧ o = ouBare o := decide_eq_true_iff
theorem txRight_iff {t : Trx} : txRight t = true ↔ (∀ i ∈ t.ins, inFits i = true) ∧ (t.ins.map Inp.pt).Nodup ∧ (1 ≤ t.ins.length ∧ t.ins.length ≤ 4) ∧ (1 ≤ t.outs.length ∧ t.outs.length ≤ 4) ∧ (∀ o ∈ t.outs, ouFits o = true) ∧ pfRight t.pf = true := decide_eq_true_iff
/-- A number that is none below 0. -/
def cntN (n : Int) : Int := if n < 0 then 0 else n
theorem cntN_fits {n : Int} (h : fits .i64 n) : fits .u64 (cntN n) := by
  unfold cntN
  simp only [fits] at *
  split <;> omega
def putOu (w : WS) (o : Oup) : WS :=
  if o.kind = 1 then wHash (wNum (wByte w o.kind) o.amount) o.key
  else if o.kind = 3 then wHash (wNum (wHash (wHash (wNum (wByte w o.kind) o.amount) o.key) o.gate) (cntN o.expiry)) o.of
  else wNum (wNum (wHash (wNum (wHash (wHash (wNum (wByte w o.kind) o.amount) o.key) o.gate) (cntN o.expiry)) o.anchor) o.unit) (cntN o.tokens)
theorem wle_ou {w : WS} {o : Oup} {a K : Nat} (h : w.1.size + (100 + a) ≤ K) : (putOu w o).1.size + a ≤ K := by
  unfold putOu
  split
  · apply wle_hash; apply wle_num; apply wle_byte; omega
  split
  · apply wle_hash; apply wle_num; apply wle_hash; apply wle_hash; apply wle_num; apply wle_byte; omega
  · apply wle_num; apply wle_num; apply wle_hash; apply wle_num; apply wle_hash; apply wle_hash; apply wle_num; apply wle_byte; omega
def putIn (w : WS) (i : Inp) : WS := wByte (wByte (wHash w i.pt.tx) i.pt.out) i.path
theorem wle_in {w : WS} {i : Inp} {a K : Nat} (h : w.1.size + (18 + a) ≤ K) : (putIn w i).1.size + a ≤ K := by
  unfold putIn
  apply wle_byte; apply wle_byte; apply wle_hash; omega
theorem fold_take {α β : Type} (f : β → α → β) {w : β} {l : List α} {i : Nat} (h : i < l.length) : (l.take (i + 1)).foldl f w = f ((l.take i).foldl f w) l[i] := by
  rw [List.take_succ_eq_append_getElem h, List.foldl_append]
  rfl
theorem wle_fold {α : Type} {f : WS → α → WS} {n : Nat} (hf : ∀ w x a K, w.1.size + (n + a) ≤ K → (f w x).1.size + a ≤ K) : ∀ (l : List α) {w : WS} {a K : Nat}, w.1.size + (n * l.length + a) ≤ K → (l.foldl f w).1.size + a ≤ K
  | [], w, a, K, h => by simp at *; omega
  | x :: l, w, a, K, h => wle_fold hf l (hf w x _ K (by rw [List.length_cons, Nat.mul_succ] at h; omega))
def txIns (t : Trx) : WS := t.ins.foldl putIn (wByte (wByte w0 67) t.ins.length)
def txPut (t : Trx) : WS := t.outs.foldl putOu (wByte (txIns t) t.outs.length)
def txCore (t : Trx) : ByteArray := if txRight t = true then wText (txPut t) else ⟨#[]⟩
def putSig (w : WS) (i : Inp) : WS := wBlob w i.sig
def txSigs (t : Trx) : WS := t.ins.foldl putSig (wBlob w0 (txCore t))
def txEnc (t : Trx) : ByteArray := if txRight t = true then wText (wBlob (txSigs t) (pfEnc t.pf)) else ⟨#[]⟩
/-- A number that is read for an int; -1: it is none. -/
def smal (n : Int) : Int := if 9223372036854775807 < n then -1 else n
def rdOu (S : ByteArray) (x : RS) : Oup × RS :=
  let k := byV S x; let x1 := byS S x; let a := nuV S x1; let x2 := nuS S x1; let key := haV S x2; let x3 := haS S x2
  if k = 1 then (⟨k, a, key, ⟨#[]⟩, 0, ⟨#[]⟩, 0, 0, ⟨#[]⟩⟩, x3)
  else if k = 3 then (⟨k, a, key, haV S x3, smal (nuV S (haS S x3)), ⟨#[]⟩, 0, 0, haV S (nuS S (haS S x3))⟩, haS S (nuS S (haS S x3)))
  else if k = 2 then (⟨k, a, key, haV S x3, smal (nuV S (haS S x3)), haV S (nuS S (haS S x3)), nuV S (haS S (nuS S (haS S x3))), smal (nuV S (nuS S (haS S (nuS S (haS S x3))))), ⟨#[]⟩⟩, nuS S (nuS S (haS S (nuS S (haS S x3)))))
  else (⟨k, a, key, ⟨#[]⟩, 0, ⟨#[]⟩, 0, 0, ⟨#[]⟩⟩, flS x3 4)
theorem rdOu_ok {S : ByteArray} {x : RS} (h : okR S x) : okR S (rdOu S x).2 := by
  have h3 := haS_ok (nuS_ok (byS_ok h))
  simp only [rdOu]
  split
  · exact h3
  split
  · exact haS_ok (nuS_ok (haS_ok h3))
  split
  · exact nuS_ok (nuS_ok (haS_ok (nuS_ok (haS_ok h3))))
  · exact flS_ok h3
/-- How many there are: of 1 to so many. -/
def manyV (S : ByteArray) (x : RS) (most : Int) : Int := if 1 ≤ byV S x ∧ byV S x ≤ most then byV S x else 0
def manyS (S : ByteArray) (x : RS) (most : Int) : RS := if 1 ≤ byV S x ∧ byV S x ≤ most then byS S x else flS (byS S x) 4
theorem manyS_ok {S : ByteArray} {x : RS} {m : Int} (h : okR S x) : okR S (manyS S x m) := by
  unfold manyS
  split
  · exact byS_ok h
  · exact flS_ok (byS_ok h)
def rdIn (S : ByteArray) (x : RS) : Inp × RS := (⟨⟨haV S x, byV S (haS S x)⟩, byV S (byS S (haS S x)), ⟨#[]⟩⟩, byS S (byS S (haS S x)))
theorem rdIn_ok {S : ByteArray} {x : RS} (h : okR S x) : okR S (rdIn S x).2 := byS_ok (byS_ok (haS_ok h))
/-- So many of a kind, one behind the other. -/
def rdMany {α : Type} (f : RS → α × RS) (x : RS) : Nat → List α × RS
  | 0 => ([], x)
  | n + 1 => ((rdMany f x n).1 ++ [(f (rdMany f x n).2).1], (f (rdMany f x n).2).2)
theorem rdMany_length {α : Type} (f : RS → α × RS) (x : RS) : ∀ n, (rdMany f x n).1.length = n
  | 0 => rfl
  | n + 1 => by show ((rdMany f x n).1 ++ [_]).length = _; rw [List.length_append, rdMany_length f x n]; rfl
theorem rdMany_ok {α : Type} {f : RS → α × RS} {S : ByteArray} (hf : ∀ y, okR S y → okR S (f y).2) {x : RS} (h : okR S x) : ∀ n, okR S (rdMany f x n).2
  | 0 => h
  | n + 1 => hf _ (rdMany_ok hf h n)
theorem rdMany_all {α : Type} {f : RS → α × RS} {P : α → Prop} (hf : ∀ y, P (f y).1) (x : RS) : ∀ n, ∀ z ∈ (rdMany f x n).1, P z
  | 0 => fun z hz => by cases hz
  | n + 1 => fun z hz => by
    rcases List.mem_append.1 hz with h | h
    · exact rdMany_all hf x n z h
    · rw [List.mem_singleton.1 h]; exact hf _
theorem smal_fits {n : Int} (h : 0 ≤ n) : fits .i64 (smal n) := by
  unfold smal
  simp only [fits]
  split <;> omega
end Go.Proofs.YtghomncegjamfaaGreat

namespace Go.Proofs.YtghomncegjamfaaGreat
open Go.RowKit

theorem nilA (s : ByteArray) : s ++ (⟨#[]⟩ : ByteArray) = s := ByteArray.append_empty
theorem nilB (s : ByteArray) : (⟨#[]⟩ : ByteArray) ++ s = s := ByteArray.empty_append
theorem At.step {S t : ByteArray} {p q : Nat} (h : At S q t) (e : q = p) : At S p t := e ▸ h
/-! ### Writing: these bytes are added -/
def wAdd (w : WS) (t : ByteArray) : WS := (w.1 ++ t, w.2)
theorem wAdd_app (w : WS) (a b : ByteArray) : wAdd (wAdd w a) b = wAdd w (a ++ b) := by unfold wAdd; rw [ByteArray.append_assoc]
theorem wByte_add {w : WS} {n : Int} (h : 0 ≤ n ∧ n ≤ 255) : wByte w n = wAdd w (oneB n) := wByte_yes h
theorem wNum_add (w : WS) (n : Int) : wNum w n = wAdd w (putS n) := rfl
theorem wBlob_add {w : WS} {t : ByteArray} (h : t.size ≤ 4096) : wBlob w t = wAdd w (partS t) := wBlob_yes h
theorem wHash_add {w : WS} {t : ByteArray} (h : t.size = 16) : wHash w t = wAdd w t := wHash_yes h
theorem wFold_add {α : Type} {f : WS → α → WS} {g : α → ByteArray} : ∀ {l : List α} {w : WS}, (∀ w, ∀ x ∈ l, f w x = wAdd w (g x)) → l.foldl f w = wAdd w (catB (l.map g))
  | [], w, _ => by show w = (w.1 ++ ⟨#[]⟩, w.2); rw [nilA]
  | x :: l, w, h => by
    rw [List.foldl_cons, h w x (.head _), wFold_add (fun w y hy => h w y (.tail _ hy)), wAdd_app]
    rfl
theorem wText_add {w : WS} {t : ByteArray} (h : w.2 = 0) : wText (wAdd w t) = w.1 ++ t := by unfold wText wAdd; rw [if_pos h]
def inBy (i : Inp) : ByteArray := i.pt.tx ++ (oneB i.pt.out ++ oneB i.path)
def ouBy (o : Oup) : ByteArray :=
  if o.kind = 1 then oneB o.kind ++ (putS o.amount ++ o.key)
  else if o.kind = 3 then oneB o.kind ++ (putS o.amount ++ (o.key ++ (o.gate ++ (putS o.expiry ++ o.of))))
  else oneB o.kind ++ (putS o.amount ++ (o.key ++ (o.gate ++ (putS o.expiry ++ (o.anchor ++ (putS o.unit ++ putS o.tokens))))))
def wnBy (x : Wn) : ByteArray := x.t.chan ++ (putS x.t.serial ++ (putS x.t.face ++ (putS x.t.wins ++ (putS x.t.many ++ (x.t.commit ++ (putS x.t.client ++ (partS x.t.sig ++ (partS x.salt ++ putS x.drawn))))))))
def pfBy (p : Pf) : ByteArray := putS p.amount ++ (partS p.sig ++ (partS p.token ++ (oneB p.wins.length ++ catB (p.wins.map wnBy))))
theorem putIn_add {w : WS} {i : Inp} (h : inFits i = true) : putIn w i = wAdd w (inBy i) := by
  obtain ⟨h1, h2, h3, _⟩ := inFits_iff.1 h
  unfold putIn inBy
  rw [wHash_add h1, wByte_add h2, wByte_add (by omega), wAdd_app, wAdd_app]
theorem inBy_size {i : Inp} (h : inFits i = true) : (inBy i).size = 18 := by
  have h1 := (inFits_iff.1 h).1
  unfold inBy
  rw [ByteArray.size_append, ByteArray.size_append, oneB_size, oneB_size, h1]
theorem cnt_eq {n : Int} (h : 0 ≤ n) : cntN n = n := by unfold cntN; rw [if_neg (by omega)]
theorem putOu_add {w : WS} {o : Oup} (h : ouFits o = true) : putOu w o = wAdd w (ouBy o) := by
  obtain ⟨h1, h2, h3, h4⟩ := ouFits_iff.1 h
  unfold putOu ouBy
  rcases h3 with h3 | ⟨h3, h5, h6, h7⟩ | ⟨h3, h5, h6⟩
  · rw [if_pos h3, if_pos h3, wByte_add (by omega), wNum_add, wHash_add h2]
    simp only [wAdd_app, ByteArray.append_assoc]
  · have n1 : ¬ o.kind = 1 := by omega
    have n3 : ¬ o.kind = 3 := by omega
    simp only [if_neg n1, if_neg n3]
    rw [wByte_add (by omega), wNum_add, wHash_add h2, wHash_add h5.1, wNum_add, wHash_add h6, wNum_add, wNum_add, cnt_eq (by omega), cnt_eq (by omega)]
    simp only [wAdd_app, ByteArray.append_assoc]
  · have n1 : ¬ o.kind = 1 := by omega
    simp only [if_neg n1, if_pos h3]
    rw [wByte_add (by omega), wNum_add, wHash_add h2, wHash_add h5.1, wNum_add, wHash_add h6, cnt_eq (by omega)]
    simp only [wAdd_app, ByteArray.append_assoc]
theorem wWin_add {w : WS} {x : Wn} (h : wnMay x = true) : wWin w x = wAdd w (wnBy x) := by
  obtain ⟨⟨h1, h2, h3⟩, h4⟩ := wnMay_iff.1 h
  unfold wWin wnBy
  rw [wHash_add h1, wHash_add h2, wBlob_add (by omega), wBlob_add (by omega)]
  simp only [wNum_add, wAdd_app, ByteArray.append_assoc]
theorem pfEnc_add {p : Pf} (h : pfRight p = true) : pfEnc p = pfBy p := by
  obtain ⟨h1, h2, h3, h4⟩ := pfRight_iff.1 h
  unfold pfEnc pfPut pfHead wWins
  rw [if_pos h, wByte_add (by omega), wBlob_add (by omega), wBlob_add (by omega), wFold_add (f := wWin) (g := wnBy) (fun w x hx => wWin_add (h1 x hx))]
  simp only [wNum_add, wAdd_app]
  rw [wText_add rfl]
  show (⟨#[]⟩ : ByteArray) ++ _ = _
  rw [nilB]
  simp only [pfBy, ByteArray.append_assoc]

/-! ### Reading many -/
theorem rdMany_cons {α : Type} (f : RS → α × RS) (x : RS) : ∀ n, rdMany f x (n + 1) = ((f x).1 :: (rdMany f (f x).2 n).1, (rdMany f (f x).2 n).2)
  | 0 => rfl
  | n + 1 => by
    have := rdMany_cons f x n
    show ((rdMany f x (n + 1)).1 ++ [(f (rdMany f x (n + 1)).2).1], (f (rdMany f x (n + 1)).2).2) = _
    rw [this]
    rfl
theorem rdMany_at {α β : Type} {S : ByteArray} {f : RS → β × RS} {enc : α → ByteArray} {g : α → β} : ∀ {l : List α} {p : Nat}, (∀ v ∈ l, ∀ p, At S p (enc v) → f (p, 0) = (g v, (p + (enc v).size, 0))) → At S p (catB (l.map enc)) → rdMany f (p, 0) l.length = (l.map g, (p + (catB (l.map enc)).size, 0))
  | [], p, _, _ => rfl
  | v :: l, p, h, hA => by
    have h1 := At.app.1 (show At S p (enc v ++ catB (l.map enc)) from hA)
    rw [List.length_cons, rdMany_cons, h v (.head _) p h1.1]
    show (g v :: (rdMany f (p + (enc v).size, 0) l.length).1, (rdMany f (p + (enc v).size, 0) l.length).2) = _
    rw [rdMany_at (fun u hu => h u (.tail _ hu)) h1.2]
    show _ = (_, (p + (enc v ++ catB (l.map enc)).size, 0))
    rw [ByteArray.size_append, Nat.add_assoc]
    rfl
theorem rdMany_back {α : Type} {S : ByteArray} {f : RS → α × RS} {enc : α → ByteArray} {ok : α → Prop} (hf : ∀ x, (f x).2.2 = 0 → ok (f x).1 → x.2 = 0 ∧ At S x.1 (enc (f x).1) ∧ (f x).2 = (x.1 + (enc (f x).1).size, 0)) {x : RS} (hx : okR S x) :
    ∀ n, (rdMany f x n).2.2 = 0 → (∀ v ∈ (rdMany f x n).1, ok v) → x.2 = 0 ∧ At S x.1 (catB ((rdMany f x n).1.map enc)) ∧ (rdMany f x n).2 = (x.1 + (catB ((rdMany f x n).1.map enc)).size, 0)
  | 0, h, _ => ⟨h, At.nil hx, by show x = (x.1, 0); rw [← h]; rfl⟩
  | n + 1, h, hok => by
    have e : (rdMany f x (n + 1)).1 = (rdMany f x n).1 ++ [(f (rdMany f x n).2).1] := rfl
    have e2 : (rdMany f x (n + 1)).2 = (f (rdMany f x n).2).2 := rfl
    rw [e2] at h
    obtain ⟨h1, h2, h3⟩ := hf _ h (hok _ (by rw [e]; simp))
    obtain ⟨g1, g2, g3⟩ := rdMany_back hf hx n h1 fun v hv => hok v (by rw [e]; simp [hv])
    have ec : catB ((rdMany f x (n + 1)).1.map enc) = catB ((rdMany f x n).1.map enc) ++ enc (f (rdMany f x n).2).1 := by
      rw [e, List.map_append, catB_append]
      show _ ++ (enc _ ++ ⟨#[]⟩) = _
      rw [nilA]
    rw [ec, e2]
    refine ⟨g1, At.app.2 ⟨g2, h2.step (by rw [g3])⟩, ?_⟩
    rw [h3, ByteArray.size_append, g3, Nat.add_assoc]

/-! ### Inputs and outputs -/
def inS (i : Inp) : Inp := ⟨i.pt, i.path, ⟨#[]⟩⟩
theorem rdIn_at {S : ByteArray} {p : Nat} {i : Inp} (hi : inFits i = true) (h : At S p (inBy i)) : rdIn S (p, 0) = (inS i, (p + (inBy i).size, 0)) := by
  obtain ⟨h1, h2, h3, _⟩ := inFits_iff.1 hi
  rw [inBy_size hi]
  unfold inBy at h
  rw [At.app, At.app, h1, oneB_size] at h
  obtain ⟨a1, a2⟩ := ha_at h.1 h1
  obtain ⟨b1, b2⟩ := by_at h.2.1 h2
  obtain ⟨c1, c2⟩ := by_at h.2.2 (by omega)
  unfold rdIn
  rw [a2, b2, c2, a1, b1, c1]
  rfl
theorem rdIn_back {S : ByteArray} {x : RS} (h : (rdIn S x).2.2 = 0) : x.2 = 0 ∧ At S x.1 (inBy (rdIn S x).1) ∧ (rdIn S x).2 = (x.1 + (inBy (rdIn S x).1).size, 0) := by
  obtain ⟨c0, c1, c2⟩ := by_back h
  obtain ⟨b0, b1, b2⟩ := by_back c0
  obtain ⟨a0, a1, a2, a3⟩ := ha_back b0
  have e : inBy (rdIn S x).1 = haV S x ++ (oneB (byV S (haS S x)) ++ oneB (byV S (byS S (haS S x)))) := rfl
  rw [e, At.app, At.app, ByteArray.size_append, ByteArray.size_append, oneB_size, oneB_size, a1]
  refine ⟨a0, ⟨a2, b1.step (by rw [a3]), c1.step (by rw [b2, a3])⟩, ?_⟩
  show byS S (byS S (haS S x)) = _
  rw [c2, b2, a3]
theorem smal_eq {n : Int} (h : n ≤ 9223372036854775807) : smal n = n := by unfold smal; rw [if_neg (by omega)]
theorem smal_pos {n : Int} (h : 0 ≤ smal n) : smal n = n := by
  unfold smal at *
  split
  · rename_i h1; rw [if_pos h1] at h; omega
  · rfl
theorem rdOu_at {S : ByteArray} {p : Nat} {o : Oup} (ho : ouFits o = true) (hf : o.Fit) (h : At S p (ouBy o)) : rdOu S (p, 0) = (o, (p + (ouBy o).size, 0)) := by
  obtain ⟨h1, h2, h3, h4⟩ := ouFits_iff.1 ho
  have f1 := hf.amount
  have f2 := hf.unit
  simp only [fits] at f1 f2
  have e : o = ouBare o := h4
  rcases h3 with h3 | ⟨h3, h5, h6, h7⟩ | ⟨h3, h5, h6⟩
  · have eB : ouBy o = oneB o.kind ++ (putS o.amount ++ o.key) := by unfold ouBy; rw [if_pos h3]
    rw [eB] at h ⊢
    simp only [At.app, oneB_size, putS_size] at h
    obtain ⟨a1, a2⟩ := by_at h.1 (by omega)
    obtain ⟨b1, b2⟩ := nu_at h.2.1 f1
    obtain ⟨c1, c2⟩ := ha_at h.2.2 h2
    simp only [ByteArray.size_append, oneB_size, putS_size, h2]
    unfold ouBare at e
    rw [if_neg (by omega), if_neg (by omega)] at e
    simp only [rdOu, a1, a2, b1, b2, c1, c2]
    rw [if_pos h3, ← e]
  · have eB : ouBy o = oneB o.kind ++ (putS o.amount ++ (o.key ++ (o.gate ++ (putS o.expiry ++ (o.anchor ++ (putS o.unit ++ putS o.tokens)))))) := by unfold ouBy; rw [if_neg (by omega), if_neg (by omega)]
    rw [eB] at h ⊢
    simp only [At.app, oneB_size, putS_size, h2, h5.1, h6] at h
    obtain ⟨a1, a2⟩ := by_at h.1 (by omega)
    obtain ⟨b1, b2⟩ := nu_at h.2.1 f1
    obtain ⟨c1, c2⟩ := ha_at h.2.2.1 h2
    obtain ⟨d1, d2⟩ := ha_at h.2.2.2.1 h5.1
    obtain ⟨e1, e2⟩ := nu_at h.2.2.2.2.1 (by omega)
    obtain ⟨g1, g2⟩ := ha_at h.2.2.2.2.2.1 h6
    obtain ⟨k1, k2⟩ := nu_at h.2.2.2.2.2.2.1 f2
    obtain ⟨l1, l2⟩ := nu_at h.2.2.2.2.2.2.2 (by omega)
    simp only [ByteArray.size_append, oneB_size, putS_size, h2, h5.1, h6]
    unfold ouBare at e
    rw [if_pos h3] at e
    simp only [rdOu, a1, a2, b1, b2, c1, c2, d1, d2, e1, e2, g1, g2, k1, k2, l1, l2]
    rw [if_neg (by omega), if_neg (by omega), if_pos h3, smal_eq (by omega), smal_eq (by omega), ← e]
  · have eB : ouBy o = oneB o.kind ++ (putS o.amount ++ (o.key ++ (o.gate ++ (putS o.expiry ++ o.of)))) := by unfold ouBy; rw [if_neg (by omega), if_pos h3]
    rw [eB] at h ⊢
    simp only [At.app, oneB_size, putS_size, h2, h5.1] at h
    obtain ⟨a1, a2⟩ := by_at h.1 (by omega)
    obtain ⟨b1, b2⟩ := nu_at h.2.1 f1
    obtain ⟨c1, c2⟩ := ha_at h.2.2.1 h2
    obtain ⟨d1, d2⟩ := ha_at h.2.2.2.1 h5.1
    obtain ⟨e1, e2⟩ := nu_at h.2.2.2.2.1 (by omega)
    obtain ⟨g1, g2⟩ := ha_at h.2.2.2.2.2 h6
    simp only [ByteArray.size_append, oneB_size, putS_size, h2, h5.1, h6]
    unfold ouBare at e
    rw [if_neg (by omega), if_pos h3] at e
    simp only [rdOu, a1, a2, b1, b2, c1, c2, d1, d2, e1, e2, g1, g2]
    rw [if_neg (by omega), if_pos h3, smal_eq (by omega), ← e]
theorem fl_back {x : RS} : (flS x 4).2 ≠ 0 := by
  unfold flS failE
  intro h
  simp only at h
  split at h
  · exact absurd h (by decide)
  · contradiction
theorem rdOu_back {S : ByteArray} {x : RS} (h : (rdOu S x).2.2 = 0) (hok : ouFits (rdOu S x).1 = true) : x.2 = 0 ∧ At S x.1 (ouBy (rdOu S x).1) ∧ (rdOu S x).2 = (x.1 + (ouBy (rdOu S x).1).size, 0) := by
  obtain ⟨_, hk2, hk3, _⟩ := ouFits_iff.1 hok
  have head : ∀ y, (haS S (nuS S (byS S y))).2 = 0 → y.2 = 0 ∧ At S y.1 (oneB (byV S y) ++ (putS (nuV S (byS S y)) ++ haV S (nuS S (byS S y)))) ∧ (haV S (nuS S (byS S y))).size = 16 ∧ haS S (nuS S (byS S y)) = (y.1 + 25, 0) := by
    intro y hy
    obtain ⟨c0, c1, c2, c3⟩ := ha_back hy
    obtain ⟨b0, b1, b2⟩ := nu_back c0
    obtain ⟨a0, a1, a2⟩ := by_back b0
    refine ⟨a0, ?_, c1, by rw [c3, b2, a2]⟩
    simp only [At.app, oneB_size, putS_size]
    exact ⟨a1, b1.step (by rw [a2]), c2.step (by rw [b2, a2])⟩
  simp only [rdOu] at h hk2 hk3 ⊢
  by_cases k1 : byV S x = 1
  · rw [if_pos k1] at h hk2 hk3 ⊢
    obtain ⟨a0, a1, a2, a3⟩ := head x h
    unfold ouBy
    rw [if_pos k1]
    refine ⟨a0, a1, ?_⟩
    simp only [ByteArray.size_append, oneB_size, putS_size, a2]
    exact a3
  rw [if_neg k1] at h hk2 hk3 ⊢
  by_cases k3 : byV S x = 3
  · rw [if_pos k3] at h hk2 hk3 ⊢
    obtain ⟨d0, d1, d2, d3⟩ := ha_back h
    obtain ⟨c0, c1, c2⟩ := nu_back d0
    obtain ⟨b0, b1, b2, b3⟩ := ha_back c0
    obtain ⟨a0, a1, a2, a3⟩ := head x b0
    unfold ouBy
    rw [if_neg (by simpa using k1), if_pos k3]
    unfold ouKind at hk3
    simp only at hk3
    rw [smal_pos (by omega)]
    simp only [At.app, ByteArray.size_append, oneB_size, putS_size, a2, b1, d1] at a1 ⊢
    refine ⟨a0, ⟨a1.1, a1.2.1, a1.2.2, b2.step (by rw [a3]), c1.step (by rw [b3, a3]), d2.step (by rw [c2, b3, a3])⟩, by rw [d3, c2, b3, a3]⟩
  rw [if_neg k3] at h hk2 hk3 ⊢
  by_cases k2 : byV S x = 2
  · rw [if_pos k2] at h hk2 hk3 ⊢
    obtain ⟨g0, g1, g2⟩ := nu_back h
    obtain ⟨f0, f1, f2⟩ := nu_back g0
    obtain ⟨d0, d1, d2, d3⟩ := ha_back f0
    obtain ⟨c0, c1, c2⟩ := nu_back d0
    obtain ⟨b0, b1, b2, b3⟩ := ha_back c0
    obtain ⟨a0, a1, a2, a3⟩ := head x b0
    unfold ouBy
    rw [if_neg (by simpa using k1), if_neg (by simpa using k3)]
    unfold ouKind at hk3
    simp only at hk3
    rw [smal_pos (by omega), smal_pos (n := nuV S (nuS S (haS S (nuS S (haS S (haS S (nuS S (byS S x)))))))) (by omega)]
    simp only [At.app, ByteArray.size_append, oneB_size, putS_size, a2, b1, d1] at a1 ⊢
    refine ⟨a0, ⟨a1.1, a1.2.1, a1.2.2, b2.step (by rw [a3]), c1.step (by rw [b3, a3]), d2.step (by rw [c2, b3, a3]), f1.step (by rw [d3, c2, b3, a3]), g1.step (by rw [f2, d3, c2, b3, a3])⟩, by rw [g2, f2, d3, c2, b3, a3]⟩
  · rw [if_neg k2] at h
    exact absurd h fl_back

/-! ### Proofs -/
theorem rdWin_at {S : ByteArray} {p : Nat} {x : Wn} (hx : wnMay x = true) (hf : x.Fit) (h : At S p (wnBy x)) : rdWin S (p, 0) = (x, (p + (wnBy x).size, 0)) := by
  obtain ⟨⟨h1, h2, h3⟩, h4⟩ := wnMay_iff.1 hx
  obtain ⟨⟨f1, f2, f3, f4, f5⟩, f6⟩ := hf
  simp only [fits] at f1 f2 f3 f4 f5 f6
  unfold wnBy at h ⊢
  simp only [At.app, putS_size, h1, h2, partS_size'] at h
  obtain ⟨a1, a2⟩ := ha_at h.1 h1
  obtain ⟨b1, b2⟩ := nu_at h.2.1 f1
  obtain ⟨c1, c2⟩ := nu_at h.2.2.1 f2
  obtain ⟨d1, d2⟩ := nu_at h.2.2.2.1 f3
  obtain ⟨e1, e2⟩ := nu_at h.2.2.2.2.1 f4
  obtain ⟨g1, g2⟩ := ha_at h.2.2.2.2.2.1 h2
  obtain ⟨k1, k2⟩ := nu_at h.2.2.2.2.2.2.1 f5
  obtain ⟨l1, l2⟩ := bl_at (m := 400) h.2.2.2.2.2.2.2.1 (by omega) (by omega)
  obtain ⟨m1, m2⟩ := bl_at (m := 32) h.2.2.2.2.2.2.2.2.1 (by omega) (by omega)
  obtain ⟨n1, n2⟩ := nu_at h.2.2.2.2.2.2.2.2.2 f6
  simp only [ByteArray.size_append, putS_size, h1, h2, partS_size']
  simp only [rdWin, a1, a2, b1, b2, c1, c2, d1, d2, e1, e2, g1, g2, k1, k2, l1, l2, m1, m2, n1, n2]
  simp only [Nat.add_assoc]
theorem rdWin_back {S : ByteArray} {x : RS} (h : (rdWin S x).2.2 = 0) : x.2 = 0 ∧ At S x.1 (wnBy (rdWin S x).1) ∧ (rdWin S x).2 = (x.1 + (wnBy (rdWin S x).1).size, 0) := by
  simp only [rdWin] at h ⊢
  obtain ⟨n0, n1, n2⟩ := nu_back h
  obtain ⟨m0, _, _, m1, m2⟩ := bl_back n0
  obtain ⟨l0, _, _, l1, l2⟩ := bl_back m0
  obtain ⟨k0, k1, k2⟩ := nu_back l0
  obtain ⟨g0, gs, g1, g2⟩ := ha_back k0
  obtain ⟨e0, e1, e2⟩ := nu_back g0
  obtain ⟨d0, d1, d2⟩ := nu_back e0
  obtain ⟨c0, c1, c2⟩ := nu_back d0
  obtain ⟨b0, b1, b2⟩ := nu_back c0
  obtain ⟨a0, as, a1, a2⟩ := ha_back b0
  unfold wnBy
  simp only [At.app, ByteArray.size_append, putS_size, partS_size', as, gs]
  refine ⟨a0, ⟨a1, b1.step (by rw [a2]), c1.step (by rw [b2, a2]), d1.step (by rw [c2, b2, a2]), e1.step (by rw [d2, c2, b2, a2]), g1.step (by rw [e2, d2, c2, b2, a2]), k1.step (by rw [g2, e2, d2, c2, b2, a2]), l1.step (by rw [k2, g2, e2, d2, c2, b2, a2]), m1.step ?_, n1.step ?_⟩, ?_⟩
  · rw [l2, k2, g2, e2, d2, c2, b2, a2]
  · rw [m2, l2, k2, g2, e2, d2, c2, b2, a2]
  · rw [n2, m2, l2, k2, g2, e2, d2, c2, b2, a2]
    simp only [Nat.add_assoc]
theorem rdWins_many (S : ByteArray) (x : RS) : ∀ n, rdWins S x n = rdMany (rdWin S) x n
  | 0 => rfl
  | n + 1 => by
    show ((rdWins S x n).1 ++ [(rdWin S (rdWins S x n).2).1], (rdWin S (rdWins S x n).2).2) = _
    rw [rdWins_many S x n]
    rfl
theorem rdPf_at {S : ByteArray} {p : Nat} {q : Pf} (hq : pfRight q = true) (hf : q.Fit) (h : At S p (pfBy q)) : rdPf S (p, 0) = q ∧ (rdWins S (pfD S (p, 0)) (pfN S (p, 0))).2 = (p + (pfBy q).size, 0) := by
  obtain ⟨h1, h2, h3, h4⟩ := pfRight_iff.1 hq
  have f1 := hf.amount
  simp only [fits] at f1
  unfold pfBy at h ⊢
  simp only [At.app, putS_size, partS_size', oneB_size] at h
  obtain ⟨a1, a2⟩ := nu_at h.1 f1
  obtain ⟨b1, b2⟩ := bl_at (m := 400) h.2.1 (by omega) (by omega)
  obtain ⟨c1, c2⟩ := bl_at (m := 16) h.2.2.1 (by omega) (by omega)
  obtain ⟨d1, d2⟩ := by_at h.2.2.2.1 (by omega)
  have eA : pfA S (p, 0) = (p + 8, 0) := a2
  have eB : pfB S (p, 0) = (p + 8 + (2 + q.sig.size), 0) := by unfold pfB; rw [eA]; exact b2
  have eC : pfC S (p, 0) = (p + 8 + (2 + q.sig.size) + (2 + q.token.size), 0) := by unfold pfC; rw [eB]; exact c2
  have eD : pfD S (p, 0) = (p + 8 + (2 + q.sig.size) + (2 + q.token.size) + 1, 0) := by unfold pfD; rw [eC]; exact d2
  have eN : pfN S (p, 0) = q.wins.length := by unfold pfN; rw [eC, d1]; omega
  have hw := rdMany_at (S := S) (f := rdWin S) (enc := wnBy) (g := id) (fun v hv p hp => rdWin_at (h1 v hv) (hf.wins v hv) hp) h.2.2.2.2
  rw [List.map_id] at hw
  rw [eN, eD, rdWins_many, hw]
  refine ⟨?_, by simp only [ByteArray.size_append, putS_size, partS_size', oneB_size, Nat.add_assoc]⟩
  unfold rdPf
  rw [eN, eD, eA, eB, rdWins_many, hw, a1, b1, c1]
theorem end_whole {S : ByteArray} : endE S (S.size, 0) = 0 := by unfold endE; simp
theorem pfDec_enc {q : Pf} (hq : pfRight q = true) (hf : q.Fit) : pfErr (pfEnc q) (0, 0) = 0 ∧ pfDec (pfEnc q) = q := by
  rw [pfEnc_add hq]
  obtain ⟨h1, h2⟩ := rdPf_at hq hf (At.self _)
  have h3 : pfErr (pfBy q) (0, 0) = 0 := by
    unfold pfErr
    rw [h2, h1, Nat.zero_add, end_whole, if_pos rfl, if_pos hq]
  exact ⟨h3, by unfold pfDec; rw [if_pos h3, h1]⟩
theorem end_back {S : ByteArray} {x : RS} (h : endE S x = 0) : x.2 = 0 ∧ S.size ≤ x.1 := by
  unfold endE at h
  split at h
  · exact absurd h (by decide)
  · rename_i h1; exact ⟨h, by omega⟩
theorem pfEnc_dec {S : ByteArray} (h : pfErr S (0, 0) = 0) : pfRight (pfDec S) = true ∧ pfEnc (pfDec S) = S := by
  have e : pfDec S = rdPf S (0, 0) := by unfold pfDec; rw [if_pos h]
  unfold pfErr at h
  by_cases h0 : endE S (rdWins S (pfD S (0, 0)) (pfN S (0, 0))).2 = 0
  · rw [if_pos h0] at h
    have hr : pfRight (rdPf S (0, 0)) = true := by
      by_cases hr : pfRight (rdPf S (0, 0)) = true
      · exact hr
      · rw [if_neg hr] at h; exact absurd h (by decide)
    rw [e]
    refine ⟨hr, ?_⟩
    rw [pfEnc_add hr]
    obtain ⟨r1, r2, r3, r4⟩ := pfRight_iff.1 hr
    obtain ⟨z1, z2⟩ := end_back h0
    have hD : okR S (pfD S (0, 0)) := byS_ok (blS_ok (blS_ok (nuS_ok (Nat.zero_le _))))
    rw [rdWins_many] at z1 z2
    obtain ⟨w0', w1, w2⟩ := rdMany_back (S := S) (f := rdWin S) (enc := wnBy) (ok := fun _ => True) (fun x hx _ => rdWin_back hx) hD _ z1 (fun _ _ => trivial)
    obtain ⟨d0, d1, d2⟩ := by_back w0'
    obtain ⟨c0, _, _, c1, c2⟩ := bl_back (m := 16) d0
    obtain ⟨b0, _, _, b1, b2⟩ := bl_back (m := 400) c0
    obtain ⟨a0, a1, a2⟩ := nu_back b0
    have hN : byV S (pfC S (0, 0)) = ((rdPf S (0, 0)).wins.length : Nat) := by
      have hl : (rdPf S (0, 0)).wins.length = pfN S (0, 0) := rdWins_length _ _ _
      have hb := byV_range S (pfC S (0, 0))
      rw [hl] at r4 ⊢
      unfold pfN at r4 ⊢
      omega
    have hA : At S 0 (pfBy (rdPf S (0, 0))) := by
      unfold pfBy
      simp only [At.app, putS_size, partS_size', oneB_size]
      rw [← hN]
      have eA : pfA S (0, 0) = (8, 0) := by show nuS S (0, 0) = _; rw [a2]
      have eB : pfB S (0, 0) = (8 + (2 + (rdPf S (0, 0)).sig.size), 0) := by show blS S (pfA S (0, 0)) 400 = _; rw [b2, show (pfA S (0, 0)).1 = 8 by rw [eA]]; rfl
      have eC : pfC S (0, 0) = (8 + (2 + (rdPf S (0, 0)).sig.size) + (2 + (rdPf S (0, 0)).token.size), 0) := by show blS S (pfB S (0, 0)) 16 = _; rw [c2, show (pfB S (0, 0)).1 = 8 + (2 + (rdPf S (0, 0)).sig.size) by rw [eB]]; rfl
      have eD : pfD S (0, 0) = (8 + (2 + (rdPf S (0, 0)).sig.size) + (2 + (rdPf S (0, 0)).token.size) + 1, 0) := by show byS S (pfC S (0, 0)) = _; rw [d2, eC]
      refine ⟨a1, b1.step (by rw [eA]), c1.step (by rw [eB]), d1.step (by rw [eC]), ?_⟩
      have : (rdPf S (0, 0)).wins = (rdMany (rdWin S) (pfD S (0, 0)) (pfN S (0, 0))).1 := by show (rdWins S _ _).1 = _; rw [rdWins_many]
      rw [this]
      exact w1.step (by rw [eD])
    refine (hA.whole ?_).symm
    have h1 := hA.le
    have h2 : S.size ≤ (pfBy (rdPf S (0, 0))).size := by
      rw [w2] at z2
      have eq : (pfBy (rdPf S (0, 0))).size = (pfD S (0, 0)).1 + (catB ((rdMany (rdWin S) (pfD S (0, 0)) (pfN S (0, 0))).1.map wnBy)).size := by
        have : (rdPf S (0, 0)).wins = (rdMany (rdWin S) (pfD S (0, 0)) (pfN S (0, 0))).1 := by show (rdWins S _ _).1 = _; rw [rdWins_many]
        rw [← this]
        unfold pfBy
        simp only [ByteArray.size_append, putS_size, partS_size', oneB_size]
        have eA : pfA S (0, 0) = (8, 0) := by show nuS S (0, 0) = _; rw [a2]
        have eB : pfB S (0, 0) = (8 + (2 + (rdPf S (0, 0)).sig.size), 0) := by show blS S (pfA S (0, 0)) 400 = _; rw [b2, show (pfA S (0, 0)).1 = 8 by rw [eA]]; rfl
        have eC : pfC S (0, 0) = (8 + (2 + (rdPf S (0, 0)).sig.size) + (2 + (rdPf S (0, 0)).token.size), 0) := by show blS S (pfB S (0, 0)) 16 = _; rw [c2, show (pfB S (0, 0)).1 = 8 + (2 + (rdPf S (0, 0)).sig.size) by rw [eB]]; rfl
        have eD : pfD S (0, 0) = (8 + (2 + (rdPf S (0, 0)).sig.size) + (2 + (rdPf S (0, 0)).token.size) + 1, 0) := by show byS S (pfC S (0, 0)) = _; rw [d2, eC]
        rw [eD]
        omega
      rw [eq]
      exact z2
    omega
  · rw [if_neg h0] at h
    exact absurd h h0
end Go.Proofs.YtghomncegjamfaaGreat
