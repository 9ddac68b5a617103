/- The walks of package turnstileref07, part two. Written by program (walk.py) out of a table of contracts and invariants. -/
import Derived.Test.YtddpoigfliaklaaGreatRk
namespace Go.Proofs.YtddpoigfliaklaaGreat
open Go.RowKit
set_option maxRecDepth 100000
set_option linter.unusedVariables false
set_option linter.unusedSimpArgs false
theorem row_even {l : List ByteArray} {h k : Nat} (hl : l.length = 2 ^ h) (hk : k < h) : (rowN l k).length % 2 = 0 := by
  rw [row_pow hl (Nat.le_of_lt hk), show h - k = (h - k - 1) + 1 by omega, Nat.pow_succ]
  exact Nat.mul_mod_left _ _
theorem rows_apart {w0 w : World} {S : List Nat} {H : List HA} {a a' : Option Addr} {n c e s n' c' e' s' : Nat} {xs xs' : List Value} (h : Hp w0 S (.row a n c e s xs :: .row a' n' c' e' s' xs' :: H) w) : ∀ b o, a = some ⟨b, o, none⟩ → b ∉ rowBlk a' := fun b o e hm => by
  obtain ⟨o2, b2, e2⟩ := rowBlk_mem hm
  refine (List.pairwise_cons.1 h.apart).1 _ (.head _) b ?_ ?_
  · subst e; rfl
  · subst e2; rfl
theorem rowBlk_own {w : World} {a : Option Addr} {n c e s : Nat} {xs : List Value} : ∀ k ∈ rowBlk a, ∃ A ∈ [HA.row a n c e s xs], A.foot = some k := fun k hk => by
  obtain ⟨o, b, rfl⟩ := rowBlk_mem hk
  exact ⟨_, .head _, rfl⟩
theorem feet_one {a : Option Addr} {n c e s : Nat} {xs : List Value} : ∀ A ∈ [HA.row a n c e s xs], ∀ k, A.foot = some k → k ∈ rowBlk a := fun A hA k hk => by
  rw [List.mem_singleton.1 hA] at hk
  exact rowBlk_foot hk
def hf (i k : Nat) : Nat := i / 2 ^ k
theorem hf_zero (i : Nat) : hf i 0 = i := by simp [hf]
theorem hf_step (i k : Nat) : ((hf i k : Nat) : Int) / 2 = ((hf i (k + 1) : Nat) : Int) := half_step i k
theorem idx_pow {j n : Nat} (h : ¬ 0 < ((hf j n : Nat) : Int)) : (j : Int) < ((2 ^ n : Nat) : Int) := by
  have h1 : hf j n = 0 := by omega
  have h2 := (Nat.div_eq_zero_iff_lt (Nat.two_pow_pos n)).1 h1
  omega
theorem idx_pow' {j n : Nat} (h : 0 < ((hf j n : Nat) : Int)) : ¬ (j : Int) < ((2 ^ n : Nat) : Int) := fun h3 => by
  have h1 : hf j n = 0 := (Nat.div_eq_zero_iff_lt (Nat.two_pow_pos n)).2 (by omega)
  omega
theorem mod_nat {d : Nat} (h : ((d : Nat) : Int) % 2 = 0) : d % 2 = 0 := by omega
theorem mod_nat' {d : Nat} (h : ¬ ((d : Nat) : Int) % 2 = 0) : ¬ d % 2 = 0 := by omega

end Go.Proofs.YtddpoigfliaklaaGreat