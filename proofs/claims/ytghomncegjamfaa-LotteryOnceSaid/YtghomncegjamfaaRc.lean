/- The walks of package turnstileref02, part two. Written by program (walk.py) out of a table of contracts and invariants. -/
import Derived.Test.YtghomncegjamfaaRb
namespace Go.Proofs.Ytghomncegjamfaa
open Go.RowKit
set_option maxRecDepth 100000
set_option linter.unusedVariables false
set_option linter.unusedSimpArgs false
attribute [local irreducible] Yields Makes Writes
theorem lenR_eq (n k : Nat) (hk : k < 8) : ((n * 8 / 256 ^ (7 - k) : Nat) : Int) % 256 = (lenBytes n).getD k 0 := by
  match k, hk with
  | 0, _ => simp [lenBytes]
  | 1, _ => simp [lenBytes]
  | 2, _ => simp [lenBytes]
  | 3, _ => simp [lenBytes]
  | 4, _ => simp [lenBytes]
  | 5, _ => simp [lenBytes]
  | 6, _ => simp [lenBytes]
  | 7, _ => simp [lenBytes]
theorem div256 (a q : Nat) : ((a / 256 ^ q : Nat) : Int) / 256 = ((a / 256 ^ (q + 1) : Nat) : Int) := by
  rw [Nat.pow_succ, ← Nat.div_div_eq_div_mul]; rfl
theorem zeros_done2 (n j : Nat) (hj : j ≤ zeros n) (h : ¬ (((n + 1 + j : Nat) : Int) % 64 ≠ 56)) : j = zeros n := by have := zeros_spec n; omega
theorem zeros_more2 (n j : Nat) (hj : j ≤ zeros n) (h : (((n + 1 + j : Nat) : Int) % 64 ≠ 56)) : j + 1 ≤ zeros n := by
  have := zeros_spec n
  rcases Nat.lt_or_ge j (zeros n) with h1 | h1
  · exact h1
  · have : j = zeros n := by omega
    subst this; omega
theorem padded_done (s : ByteArray) : ints s ++ (128 :: List.replicate (zeros s.size) 0 : List Int) ++ (lenBytes s.size).take 8 = padded s := by
  rw [List.append_assoc, pad_done]; rfl
theorem padded_b8 (s : ByteArray) : ∀ x ∈ padded s, 0 ≤ x ∧ x ≤ 255 := by
  intro x hx
  rcases List.mem_append.1 hx with h | h
  · exact ints_range h
  · exact padL_range _ x h
theorem block_b8 (s : ByteArray) (i : Nat) : B8 (((padded s).drop (64 * i)).take 64) := getD_range fun x hx => padded_b8 s x (List.mem_of_mem_drop (List.mem_of_mem_take hx))
theorem finS_ok (s : ByteArray) (i : Nat) (hi : i < 8) : W32 ((finS s).getD i 0) := by
  have h0 : Okst (finS s) := absorb_ok _ _ _ st0_ok
  refine h0 _ ?_
  rw [List.getD_eq_getElem?_getD]
  have h : i < (finS s).length := by rw [finS_length]; exact hi
  rw [List.getElem?_eq_getElem h]
  exact List.getElem_mem h

end Go.Proofs.Ytghomncegjamfaa