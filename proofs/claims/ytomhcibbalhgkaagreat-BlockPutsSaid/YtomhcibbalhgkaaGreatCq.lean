/- The walks of the reference's reader of parts. Written by program (walk.py) out of a table of contracts and invariants. -/
import Derived.Test.YtomhcibbalhgkaaGreatCp
namespace Go.Proofs.YtomhcibbalhgkaaGreat
open Go.RowKit
set_option maxRecDepth 100000
set_option linter.unusedVariables false
set_option linter.unusedSimpArgs false
attribute [local irreducible] Yields Makes Writes
theorem tk_none {S : ByteArray} {x : RS} {n : Nat} (hn : 0 < n) : tkV S x n = ⟨#[]⟩ ↔ (tkS S x n).2 ≠ 0 := by
  by_cases h0 : x.2 = 0
  · by_cases h1 : x.1 + n ≤ S.size
    · obtain ⟨h2, h3⟩ := tk_yes (S := S) (x := x) (n := n) h0 h1
      rw [h2, h3]
      constructor
      · intro h; have := eq_size h; rw [ByteArray.size_extract] at this; omega
      · intro h; exact absurd rfl h
    · obtain ⟨h2, h3⟩ := tk_short (S := S) (x := x) (n := n) h0 h1
      rw [h2, h3]; simp
  · obtain ⟨h2, h3⟩ := tk_bad (S := S) (x := x) (n := n) h0
    rw [h2, h3]; simpa using h0
theorem tk_empty {S : ByteArray} {x : RS} {n : Nat} (h : ¬ (tkS S x n).2 = 0) : tkV S x n = ⟨#[]⟩ := by
  by_cases h0 : x.2 = 0
  · by_cases h1 : x.1 + n ≤ S.size
    · rw [(tk_yes (S := S) (x := x) (n := n) h0 h1).2] at h; exact absurd rfl h
    · exact (tk_short (S := S) (x := x) (n := n) h0 h1).1
  · exact (tk_bad (S := S) (x := x) (n := n) h0).1

end Go.Proofs.YtomhcibbalhgkaaGreat