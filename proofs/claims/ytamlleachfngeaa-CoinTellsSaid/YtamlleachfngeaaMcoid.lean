/- Plain law of coins, part two: the reading of a whole transaction. No program in sight. -/
import Derived.Test.YtamlleachfngeaaCg
namespace Go.Proofs.Ytamlleachfngeaa
open Go.RowKit

/-- Where a reader stands behind so many signatures; the inputs with these. -/
def sgX (S : ByteArray) (x : RS) : Nat → RS
  | 0 => x
  | n + 1 => blS S (sgX S x n) 400
def sgL (S : ByteArray) (x : RS) (l : List Inp) : Nat → List Inp
  | 0 => l
  | n + 1 => (sgL S x l n).modify n fun i => ⟨i.pt, i.path, blV S (sgX S x n) 400⟩
theorem sgX_ok {S : ByteArray} {x : RS} (h : okR S x) : ∀ n, okR S (sgX S x n)
  | 0 => h
  | n + 1 => blS_ok (sgX_ok h n)
theorem sgL_length (S : ByteArray) (x : RS) (l : List Inp) : ∀ n, (sgL S x l n).length = l.length
  | 0 => rfl
  | n + 1 => by show ((sgL S x l n).modify n _).length = _; rw [List.length_modify, sgL_length S x l n]
/-- A signature that is laid into an input that lies in a row of cells. -/
theorem flat_sig (s : ByteArray) : ∀ (l : List Inp) (n : Nat), n < l.length → ((l.modify n fun i => ⟨i.pt, i.path, s⟩).flatMap Inp.c) = (l.flatMap Inp.c).set (n * 4 + 3) (.string s)
  | [], n, h => absurd h (by simp)
  | i :: l, 0, _ => by simp [List.flatMap_cons, Inp.c]
  | i :: l, n + 1, h => by
    have h1 := flat_sig s l n (by simpa using h)
    rw [List.modify_succ_cons, List.flatMap_cons, List.flatMap_cons, h1, show (n + 1) * 4 + 3 = (n * 4 + 3) + 4 by omega]
    rfl
theorem flat_length (l : List Inp) : (l.flatMap Inp.c).length = l.length * 4 := by
  induction l with
  | nil => rfl
  | cons i l ih => rw [List.flatMap_cons, List.length_append, ih]; simp; omega
def tx0 : Trx := ⟨[], [], pf0⟩
/-- What is read behind the core: the signatures, the proof's bytes. -/
def dC (S : ByteArray) : ByteArray := blV S r00 4096
def dA (S : ByteArray) : RS := blS S r00 4096
def dI (S : ByteArray) : List Inp := sgL S (dA S) (coTrx (dC S)).ins (coTrx (dC S)).ins.length
def dB (S : ByteArray) : RS := sgX S (dA S) (coTrx (dC S)).ins.length
def dP (S : ByteArray) : ByteArray := blV S (dB S) 4096
def dE (S : ByteArray) : RS := blS S (dB S) 4096
def dT (S : ByteArray) : Trx := ⟨dI S, (coTrx (dC S)).outs, pfDec (dP S)⟩
def txErr (S : ByteArray) : Int :=
  if dC S = ⟨#[]⟩ then endE S (flS (dA S) 4)
  else if coErr (dC S) ≠ 0 then coErr (dC S)
  else if endE S (dE S) ≠ 0 ∧ endE S (dE S) ≠ 4 then endE S (dE S)
  else if pfErr (dP S) r00 ≠ 0 then pfErr (dP S) r00
  else if (dE S).1 < S.size ∨ txRight (dT S) = false then 4 else 0
def txDec (S : ByteArray) : Trx := if txErr S = 0 then dT S else tx0
end Go.Proofs.Ytamlleachfngeaa
