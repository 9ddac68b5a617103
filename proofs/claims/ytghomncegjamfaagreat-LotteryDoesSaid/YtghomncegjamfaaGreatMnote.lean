/- Plain law of notes: tickets, wins, proofs, and how they are written. No program in sight. -/
import Derived.Test.YtghomncegjamfaaGreatMcod
import Derived.Test.YtghomncegjamfaaGreatJq
namespace Go.Proofs.YtghomncegjamfaaGreat
open Go.RowKit

structure Tk where
  chan : ByteArray
  serial : Int
  face : Int
  wins : Int
  many : Int
  commit : ByteArray
  client : Int
  sig : ByteArray
  deriving DecidableEq
structure Wn where
  t : Tk
  salt : ByteArray
  drawn : Int
  deriving DecidableEq
structure Pf where
  amount : Int
  sig : ByteArray
  token : ByteArray
  wins : List Wn
  deriving DecidableEq
abbrev Tk.c (t : Tk) : List Value := [.string t.chan, .int .u64 t.serial, .int .u64 t.face, .int .u64 t.wins, .int .u64 t.many, .string t.commit, .int .u64 t.client, .string t.sig]
abbrev Wn.c (x : Wn) : List Value := [.string x.t.chan, .int .u64 x.t.serial, .int .u64 x.t.face, .int .u64 x.t.wins, .int .u64 x.t.many, .string x.t.commit, .int .u64 x.t.client, .string x.t.sig, .string x.salt, .int .u64 x.drawn]
abbrev Pf.c (p : Pf) (ad : Option Addr) (c : Nat) : List Value := [.int .u64 p.amount, .string p.sig, .string p.token, .slice ad p.wins.length c]
/-- What can be in 64 bits. -/
structure Tk.Fit (t : Tk) : Prop where
  serial : fits .u64 t.serial
  face : fits .u64 t.face
  wins : fits .u64 t.wins
  many : fits .u64 t.many
  client : fits .u64 t.client
structure Wn.Fit (x : Wn) : Prop where
  t : x.t.Fit
  drawn : fits .u64 x.drawn
structure Pf.Fit (p : Pf) : Prop where
  amount : fits .u64 p.amount
  wins : ∀ x ∈ p.wins, x.Fit
/-- Texts of at most so many bytes. -/
structure Tk.Low (t : Tk) (n : Nat) : Prop where
  chan : t.chan.size ≤ n
  commit : t.commit.size ≤ n
  sig : t.sig.size ≤ n
structure Wn.Low (x : Wn) (n : Nat) : Prop where
  t : x.t.Low n
  salt : x.salt.size ≤ n
def tkMay (t : Tk) : Bool := decide (t.chan.size = 16) && (decide (t.commit.size = 16) && decide (t.sig.size ≤ 400))
def wnMay (x : Wn) : Bool := tkMay x.t && decide (x.salt.size ≤ 32)
def pfRight (p : Pf) : Bool := p.wins.all wnMay && (decide (p.sig.size ≤ 400) && (decide (p.token.size = 0 ∨ p.token.size = 16) && decide (p.wins.length ≤ 3)))
theorem tkMay_iff {t : Tk} : tkMay t = true ↔ t.chan.size = 16 ∧ t.commit.size = 16 ∧ t.sig.size ≤ 400 := by simp [tkMay]
theorem wnMay_iff {x : Wn} : wnMay x = true ↔ (x.t.chan.size = 16 ∧ x.t.commit.size = 16 ∧ x.t.sig.size ≤ 400) ∧ x.salt.size ≤ 32 := by simp [wnMay, tkMay_iff]
theorem pfRight_iff {p : Pf} : pfRight p = true ↔ (∀ x ∈ p.wins, wnMay x = true) ∧ p.sig.size ≤ 400 ∧ (p.token.size = 0 ∨ p.token.size = 16) ∧ p.wins.length ≤ 3 := by simp [pfRight, List.all_eq_true]
theorem size_zero {s : ByteArray} : s.size = 0 ↔ s = ⟨#[]⟩ := by
  constructor
  · intro h
    apply ByteArray.ext
    apply Array.eq_empty_of_size_eq_zero
    exact h
  · rintro rfl; rfl
def wNums (x : WS) (l : List Int) : WS := l.foldl wNum x
theorem wNums_take {x : WS} {l : List Int} {i : Nat} (h : i < l.length) : wNums x (l.take (i + 1)) = wNum (wNums x (l.take i)) (l.getD i 0) := by
  unfold wNums
  rw [List.take_succ_eq_append_getElem h, List.foldl_append]
  simp [h]
theorem wle_nums {l : List Int} : ∀ {x : WS} {a K : Nat}, x.1.size + (8 * l.length + a) ≤ K → (wNums x l).1.size + a ≤ K := by
  induction l with
  | nil => intro x a K h; simp [wNums] at *; omega
  | cons n l ih =>
    intro x a K h
    exact ih (x := wNum x n) (wle_num (by simp only [List.length_cons] at h; omega))
def wWin (w : WS) (x : Wn) : WS := wNum (wBlob (wBlob (wNum (wHash (wNum (wNum (wNum (wNum (wHash w x.t.chan) x.t.serial) x.t.face) x.t.wins) x.t.many) x.t.commit) x.t.client) x.t.sig) x.salt) x.drawn
theorem wle_win {w : WS} {x : Wn} {a K : Nat} (h : w.1.size + (8300 + a) ≤ K) : (wWin w x).1.size + a ≤ K := by
  unfold wWin
  apply wle_num; apply wle_blob; apply wle_blob; apply wle_num; apply wle_hash; apply wle_num; apply wle_num; apply wle_num; apply wle_num; apply wle_hash
  omega
def wWins (w : WS) (l : List Wn) : WS := l.foldl wWin w
theorem wWins_take {w : WS} {l : List Wn} {i : Nat} (h : i < l.length) : wWins w (l.take (i + 1)) = wWin (wWins w (l.take i)) l[i] := by
  unfold wWins
  rw [List.take_succ_eq_append_getElem h, List.foldl_append]
  rfl
theorem wle_wins {l : List Wn} : ∀ {x : WS} {a K : Nat}, x.1.size + (8300 * l.length + a) ≤ K → (wWins x l).1.size + a ≤ K := by
  induction l with
  | nil => intro x a K h; simp [wWins] at *; omega
  | cons n l ih =>
    intro x a K h
    exact ih (x := wWin x n) (wle_win (by simp only [List.length_cons] at h; omega))
def pfHead (p : Pf) : WS := wByte (wBlob (wBlob (wNum w0 p.amount) p.sig) p.token) p.wins.length
def pfPut (p : Pf) : WS := wWins (pfHead p) p.wins
theorem pfHead_size (p : Pf) : (pfHead p).1.size ≤ 9000 := by
  show _ + 0 ≤ _
  unfold pfHead
  apply wle_byte; apply wle_blob; apply wle_blob; apply wle_num
  decide
def pfEnc (p : Pf) : ByteArray := if pfRight p = true then wText (pfPut p) else ⟨#[]⟩
def tkText (t : Tk) : ByteArray := wText (wNum (wBlob (wNum (wNum (wNum (wNum (wBlob (wByte w0 84) t.chan) t.serial) t.face) t.wins) t.many) t.commit) t.client)
def vouch (ch : ByteArray) (a : Int) : ByteArray := wText (wNum (wBlob (wByte w0 86) ch) a)
/-- How proofs are held against each other. -/
def pfSame (p q : Pf) : Bool := decide (p = q)
/-- A win that is read, and what stands behind it. -/
def rdWin (S : ByteArray) (x : RS) : Wn × RS :=
  let x1 := haS S x; let x2 := nuS S x1; let x3 := nuS S x2; let x4 := nuS S x3; let x5 := nuS S x4
  let x6 := haS S x5; let x7 := nuS S x6; let x8 := blS S x7 400; let x9 := blS S x8 32
  (⟨⟨haV S x, nuV S x1, nuV S x2, nuV S x3, nuV S x4, haV S x5, nuV S x6, blV S x7 400⟩, blV S x8 32, nuV S x9⟩, nuS S x9)
def rdWins (S : ByteArray) (x : RS) : Nat → List Wn × RS
  | 0 => ([], x)
  | n + 1 => let y := rdWins S x n; let z := rdWin S y.2; (y.1 ++ [z.1], z.2)
theorem rdWins_length (S : ByteArray) (x : RS) : ∀ n, (rdWins S x n).1.length = n
  | 0 => rfl
  | n + 1 => by show ((rdWins S x n).1 ++ [_]).length = _; rw [List.length_append, rdWins_length S x n]; rfl
theorem rdWin_ok {S : ByteArray} {x : RS} (h : okR S x) : okR S (rdWin S x).2 := nuS_ok (blS_ok (blS_ok (nuS_ok (haS_ok (nuS_ok (nuS_ok (nuS_ok (nuS_ok (haS_ok h)))))))))
theorem rdWins_ok {S : ByteArray} {x : RS} (h : okR S x) : ∀ n, okR S (rdWins S x n).2
  | 0 => h
  | n + 1 => rdWin_ok (rdWins_ok h n)
theorem rdWin_fit (S : ByteArray) (x : RS) : (rdWin S x).1.Fit := ⟨⟨nuV_range _ _, nuV_range _ _, nuV_range _ _, nuV_range _ _, nuV_range _ _⟩, nuV_range _ _⟩
theorem rdWins_fit (S : ByteArray) (x : RS) : ∀ n, ∀ y ∈ (rdWins S x n).1, y.Fit
  | 0 => fun y hy => by cases hy
  | n + 1 => fun y hy => by
    rcases List.mem_append.1 hy with h | h
    · exact rdWins_fit S x n y h
    · rw [List.mem_singleton.1 h]; exact rdWin_fit S _
/-- What stands ahead of the wins. -/
def pfA (S : ByteArray) (x : RS) : RS := nuS S x
def pfB (S : ByteArray) (x : RS) : RS := blS S (pfA S x) 400
def pfC (S : ByteArray) (x : RS) : RS := blS S (pfB S x) 16
def pfN (S : ByteArray) (x : RS) : Nat := (min (byV S (pfC S x)) 4).toNat
def pfD (S : ByteArray) (x : RS) : RS := byS S (pfC S x)
def rdPf (S : ByteArray) (x : RS) : Pf := ⟨nuV S x, blV S (pfA S x) 400, blV S (pfB S x) 16, (rdWins S (pfD S x) (pfN S x)).1⟩
def pfErr (S : ByteArray) (x : RS) : Int := if endE S (rdWins S (pfD S x) (pfN S x)).2 = 0 then (if pfRight (rdPf S x) = true then 0 else 4) else endE S (rdWins S (pfD S x) (pfN S x)).2
def pf0 : Pf := ⟨0, ⟨#[]⟩, ⟨#[]⟩, []⟩
def pfDec (S : ByteArray) : Pf := if pfErr S (0, 0) = 0 then rdPf S (0, 0) else pf0
end Go.Proofs.YtghomncegjamfaaGreat
