/- The walks of packages payword and turnstileref04. Written by program (walk.py) out of a table of contracts and invariants. -/
import Derived.Test.YtghomncegjamfaaMpay
import Derived.Test.YtghomncegjamfaaNu
import Derived.Test.YtghomncegjamfaaJk
namespace Go.Proofs.Ytghomncegjamfaa
open Go.RowKit
set_option maxRecDepth 100000
set_option linter.unusedVariables false
set_option linter.unusedSimpArgs false
attribute [local irreducible] Yields Makes Writes
/-- A chain lies there. -/
def ChainAt (w : World) (b : Nat) (seed : ByteArray) (n : Nat) : Prop := ∃ bl, w.cell? ⟨b, 0, none⟩ = some (.slice (some ⟨bl, 0, none⟩) (n + 1) (n + 1)) ∧ Strs w (some ⟨bl, 0, none⟩) (toks seed n)
theorem ChainAt.keep {w w1 : World} {b n : Nat} {seed : ByteArray} {H : List HA} (h : ChainAt w b seed n) (hw : Hp w [] H w1) : ChainAt w1 b seed n := let ⟨bl, h1, h2⟩ := h; ⟨bl, hw.cell h1 (by simp), h2.keep hw⟩
def tokV (seed : ByteArray) (n : Nat) (i : Int) : ByteArray := if 0 ≤ i ∧ i ≤ n then tokS seed n i.toNat else ⟨#[]⟩
def tokE (n : Nat) (i : Int) : Int := if 0 ≤ i ∧ i ≤ n then 0 else 1
theorem tok_in {seed : ByteArray} {n : Nat} {i : Int} (h : 0 ≤ i ∧ i ≤ n) : tokV seed n i = tokS seed n i.toNat ∧ tokE n i = 0 := by unfold tokV tokE; rw [if_pos h, if_pos h]; exact ⟨rfl, rfl⟩
theorem tok_out {seed : ByteArray} {n : Nat} {i : Int} (h : ¬ (0 ≤ i ∧ i ≤ n)) : tokV seed n i = ⟨#[]⟩ ∧ tokE n i = 1 := by unfold tokV tokE; rw [if_neg h, if_neg h]; exact ⟨rfl, rfl⟩
theorem strs_at {w : World} {b : Nat} {ps : List ByteArray} {i : Nat} {p : ByteArray} (h : Strs w (some ⟨b, 0, none⟩) ps) (hp : ps[i]? = some p) : w.cell? ⟨b, i, none⟩ = some (.string p) := by
  obtain ⟨b', o', e, hc⟩ := h i p hp
  cases e
  simpa using hc
theorem strs_set {w : World} {b m cap e i : Nat} {ps : List ByteArray} {p : ByteArray} : (ps.map Value.string).set i (.string p) = (ps.set i p).map Value.string := by simp [List.map_set]

end Go.Proofs.Ytghomncegjamfaa