/- The walks of package codec, part two: reading. Written by program (walk.py) out of a table of contracts and invariants. -/
import Derived.Test.YtghomncegjamfaaCo
namespace Go.Proofs.Ytghomncegjamfaa
open Go.RowKit
set_option maxRecDepth 100000
set_option linter.unusedVariables false
set_option linter.unusedSimpArgs false
attribute [local irreducible] Yields Makes Writes
theorem bt_empty : head ⟨#[]⟩ = 0 ∧ getV ⟨#[]⟩ = 0 ∧ two ⟨#[]⟩ = 0 := ⟨rfl, rfl, rfl⟩
theorem not_both {a b : Prop} (h : ¬ (a ∧ b)) (hb : b) : ¬ a := fun ha => h ⟨ha, hb⟩
theorem ne_size {s : ByteArray} (h : ¬ s = ⟨#[]⟩) : 0 < s.size := by
  rcases Nat.eq_zero_or_pos s.size with h1 | h1
  · exact absurd (ByteArray.size_eq_zero_iff.1 h1) h
  · exact h1
theorem eq_size {s : ByteArray} (h : s = ⟨#[]⟩) : s.size = 0 := by rw [h]; rfl
theorem ext_size {S : ByteArray} {a : Nat} (h : a ≤ S.size) : (S.extract a S.size).size = S.size - a := by rw [ByteArray.size_extract]; omega
theorem ext_none {S : ByteArray} {a : Nat} (h : a ≤ S.size) : S.extract a S.size = ⟨#[]⟩ ↔ ¬ a < S.size := ⟨fun e => by have := eq_size e; rw [ext_size h] at this; omega, fun h2 => Decidable.byContradiction fun h3 => by have := ne_size h3; rw [ext_size h] at this; omega⟩
theorem lenV_two (S : ByteArray) (x : RS) : ((lenV S x : Nat) : Int) = two (tkV S x 2) := by have := two_range (tkV S x 2); unfold lenV; omega

end Go.Proofs.Ytghomncegjamfaa