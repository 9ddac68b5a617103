/- What the walks of the laws share: strings cut off, lists that grow. -/
import Derived.Test.YtddpoigfliaklaaMsha
namespace Go.Proofs.Ytddpoigfliaklaa
def cutS (s : ByteArray) (n : Nat) : ByteArray := s.extract 0 (min s.size n)
theorem cutS_size (s : ByteArray) (n : Nat) : (cutS s n).size ≤ n := by simp [cutS]; omega
theorem cut_eq (s : ByteArray) (n : Nat) : s.extract 0 (min (s.size : Int) (n : Int)).toNat = cutS s n := by
  unfold cutS; congr 1; omega
theorem all_snoc {l : List ByteArray} {x : ByteArray} {n : Nat} (h : ∀ p ∈ l, p.size ≤ n) (hx : x.size ≤ n) : ∀ p ∈ l ++ [x], p.size ≤ n := by
  intro p hp
  rcases List.mem_append.1 hp with hp | hp
  · exact h p hp
  · rw [List.mem_singleton.1 hp]; exact hx
end Go.Proofs.Ytddpoigfliaklaa
