/-
  No cell of these rows narrows 'for every input' (looked for: loops, veiled, ifaces, maps, wideKeys, modest, calm, conditions, laid).
  DERIVED. THE GIVEN ROWS OF THIS SEAT. 6 by the template 'for every input the law returns true; each argument reads behind the call as it read before'; 0 by the template 'total and deterministic' (their statements: YtbemnhllcpopbaaTotals.lean).
  GIVEN WITH THE SEED: the statements are not yours to turn. If you find one false, say at which input.
  Laid BY PROGRAM, IN A SANDBOX (cutbox-rows.mjs): the forced cells as the released guide's own fill.sh prints them over the translation b3b958c2de70e76c… (all of the seat's roots in one cut). By AI agents, Wed Nov 11 2026. No macro, syntax, notation, axiom, sorry.
-/
import Derived.Test.YtbemnhllcpopbaaChecked
import GoSem.Claim
import GoSem.ClaimJoined
import GoSem.ClaimMapViews
import Derived.JoinedTies
import Derived.KernelRfl
namespace Go.Proofs.Ytbemnhllcpopbaa
/- THE CELL 'sum', in the pinned program and in every row, IS THE sha256 OF THE DUMP (.gsa) THAT YtbemnhllcpopbaaProg.lean LOADS. Nothing in Lean hashes anything: it is a label: what it is worth is what the hold of that sum in a sandbox is worth. -/
noncomputable def Try.pinned : Pinned := { name := "ytbemnhllcpopbaa", sum := "b3b958c2de70e76c4490bc7412204aafc8e30d1725ca7ac8d1e6fa8345fa47e1", checked := Try.checked }
namespace Rows
def none {H : Type} : Left H := { results := [], args := [] }

/-- 'turnstilelaw07.MerkleTrees': WHATEVER THE INPUT: true; the input reads as it did. -/
def merkleTreesSpec : ChangeSpec := { name := "merkleTrees", fn := fun _ => fun
  | [d1, d2, d3] => { results := [.lit (.bool true)], args := [d1, d2, d3] }
  | _ => none }
def merkleTreesRow : OpenClaim := { program := "ytbemnhllcpopbaa", sum := "b3b958c2de70e76c4490bc7412204aafc8e30d1725ca7ac8d1e6fa8345fa47e1", func := "turnstile/turnstilelaw07.MerkleTrees", spec := "merkleTrees", unfollowed := true, recurses := true, apart := false }
def MerkleTreesSaid : Prop := merkleTreesRow.holds Try.pinned (OpenSpec.ofChange merkleTreesSpec)

/-- ITS FALSE NEIGHBOUR: 'it returns false'. Refute it at one input. -/
def merkleTreesWrong : ChangeSpec := { name := "merkleTrees", fn := fun _ => fun
  | [d1, d2, d3] => { results := [.lit (.bool false)], args := [d1, d2, d3] }
  | _ => none }
def MerkleTreesWrongFalsely : Prop := merkleTreesRow.holds Try.pinned (OpenSpec.ofChange merkleTreesWrong)

/-- 'turnstilelaw07.MerkleSigns': WHATEVER THE INPUT: true; the input reads as it did. -/
def merkleSignsSpec : ChangeSpec := { name := "merkleSigns", fn := fun _ => fun
  | [d1, d2, d3] => { results := [.lit (.bool true)], args := [d1, d2, d3] }
  | _ => none }
def merkleSignsRow : OpenClaim := { program := "ytbemnhllcpopbaa", sum := "b3b958c2de70e76c4490bc7412204aafc8e30d1725ca7ac8d1e6fa8345fa47e1", func := "turnstile/turnstilelaw07.MerkleSigns", spec := "merkleSigns", unfollowed := true, recurses := true, apart := false }
def MerkleSignsSaid : Prop := merkleSignsRow.holds Try.pinned (OpenSpec.ofChange merkleSignsSpec)

/-- ITS FALSE NEIGHBOUR: 'it returns false'. Refute it at one input. -/
def merkleSignsWrong : ChangeSpec := { name := "merkleSigns", fn := fun _ => fun
  | [d1, d2, d3] => { results := [.lit (.bool false)], args := [d1, d2, d3] }
  | _ => none }
def MerkleSignsWrongFalsely : Prop := merkleSignsRow.holds Try.pinned (OpenSpec.ofChange merkleSignsWrong)

/-- 'turnstilelaw07.MerkleVerifies': WHATEVER THE INPUT: true; the input reads as it did. -/
def merkleVerifiesSpec : ChangeSpec := { name := "merkleVerifies", fn := fun _ => fun
  | [d1, d2, d3] => { results := [.lit (.bool true)], args := [d1, d2, d3] }
  | _ => none }
def merkleVerifiesRow : OpenClaim := { program := "ytbemnhllcpopbaa", sum := "b3b958c2de70e76c4490bc7412204aafc8e30d1725ca7ac8d1e6fa8345fa47e1", func := "turnstile/turnstilelaw07.MerkleVerifies", spec := "merkleVerifies", unfollowed := true, recurses := true, apart := false }
def MerkleVerifiesSaid : Prop := merkleVerifiesRow.holds Try.pinned (OpenSpec.ofChange merkleVerifiesSpec)

/-- ITS FALSE NEIGHBOUR: 'it returns false'. Refute it at one input. -/
def merkleVerifiesWrong : ChangeSpec := { name := "merkleVerifies", fn := fun _ => fun
  | [d1, d2, d3] => { results := [.lit (.bool false)], args := [d1, d2, d3] }
  | _ => none }
def MerkleVerifiesWrongFalsely : Prop := merkleVerifiesRow.holds Try.pinned (OpenSpec.ofChange merkleVerifiesWrong)

/-- 'turnstilelaw07.MerklePaths': WHATEVER THE INPUT: true; the input reads as it did. -/
def merklePathsSpec : ChangeSpec := { name := "merklePaths", fn := fun _ => fun
  | [d1, d2] => { results := [.lit (.bool true)], args := [d1, d2] }
  | _ => none }
def merklePathsRow : OpenClaim := { program := "ytbemnhllcpopbaa", sum := "b3b958c2de70e76c4490bc7412204aafc8e30d1725ca7ac8d1e6fa8345fa47e1", func := "turnstile/turnstilelaw07.MerklePaths", spec := "merklePaths", unfollowed := true, recurses := true, apart := false }
def MerklePathsSaid : Prop := merklePathsRow.holds Try.pinned (OpenSpec.ofChange merklePathsSpec)

/-- ITS FALSE NEIGHBOUR: 'it returns false'. Refute it at one input. -/
def merklePathsWrong : ChangeSpec := { name := "merklePaths", fn := fun _ => fun
  | [d1, d2] => { results := [.lit (.bool false)], args := [d1, d2] }
  | _ => none }
def MerklePathsWrongFalsely : Prop := merklePathsRow.holds Try.pinned (OpenSpec.ofChange merklePathsWrong)

/-- 'turnstilelaw07.MerkleOnce': WHATEVER THE INPUT: true; the input reads as it did. -/
def merkleOnceSpec : ChangeSpec := { name := "merkleOnce", fn := fun _ => fun
  | [d1, d2, d3] => { results := [.lit (.bool true)], args := [d1, d2, d3] }
  | _ => none }
def merkleOnceRow : OpenClaim := { program := "ytbemnhllcpopbaa", sum := "b3b958c2de70e76c4490bc7412204aafc8e30d1725ca7ac8d1e6fa8345fa47e1", func := "turnstile/turnstilelaw07.MerkleOnce", spec := "merkleOnce", unfollowed := true, recurses := true, apart := false }
def MerkleOnceSaid : Prop := merkleOnceRow.holds Try.pinned (OpenSpec.ofChange merkleOnceSpec)

/-- ITS FALSE NEIGHBOUR: 'it returns false'. Refute it at one input. -/
def merkleOnceWrong : ChangeSpec := { name := "merkleOnce", fn := fun _ => fun
  | [d1, d2, d3] => { results := [.lit (.bool false)], args := [d1, d2, d3] }
  | _ => none }
def MerkleOnceWrongFalsely : Prop := merkleOnceRow.holds Try.pinned (OpenSpec.ofChange merkleOnceWrong)

/-- 'turnstilelaw07.MerkleSame': WHATEVER THE INPUT: true; the input reads as it did. -/
def merkleSameSpec : ChangeSpec := { name := "merkleSame", fn := fun _ => fun
  | [d1, d2, d3] => { results := [.lit (.bool true)], args := [d1, d2, d3] }
  | _ => none }
def merkleSameRow : OpenClaim := { program := "ytbemnhllcpopbaa", sum := "b3b958c2de70e76c4490bc7412204aafc8e30d1725ca7ac8d1e6fa8345fa47e1", func := "turnstile/turnstilelaw07.MerkleSame", spec := "merkleSame", unfollowed := true, recurses := true, apart := false }
def MerkleSameSaid : Prop := merkleSameRow.holds Try.pinned (OpenSpec.ofChange merkleSameSpec)

/-- ITS FALSE NEIGHBOUR: 'it returns false'. Refute it at one input. -/
def merkleSameWrong : ChangeSpec := { name := "merkleSame", fn := fun _ => fun
  | [d1, d2, d3] => { results := [.lit (.bool false)], args := [d1, d2, d3] }
  | _ => none }
def MerkleSameWrongFalsely : Prop := merkleSameRow.holds Try.pinned (OpenSpec.ofChange merkleSameWrong)

/- THE SECOND FORM. 'bulk': how many values and letters a reading holds, each counted each time it is reached (what is shared counts as often as it is met; a slice's spare places count too). A statement '..UptoSaid' is the law's where the arguments, and the package variables that the reading takes, are together of bulk at most 1048576: NARROWER than '..Said'. Prove '..Said' where nothing that the law and all that it calls make is longer than what came in: it says more and counts as full. Else prove '..UptoSaid'. A law counts once. -/
mutual
def uptoBulk {H : Type} : DataW H → Nat
  | .lit (.string bytes) => bytes.length + 1
  | .lit _ => 1
  | .nil => 1
  | .ptr d => uptoBulk d + 1
  | .slice elems spare => uptoBulkAll elems + uptoBulkAll spare + 1
  | .agg parts => uptoBulkAll parts + 1
  | .iface _ d => uptoBulk d + 1
  | .map entries => uptoBulkEntries entries + 1
  | .held _ => 1
def uptoBulkAll {H : Type} : List (DataW H) → Nat
  | [] => 0
  | d :: r => uptoBulk d + uptoBulkAll r
def uptoBulkEntries {H : Type} : List (Lit × DataW H) → Nat
  | [] => 0
  | x :: r => uptoBulkEntry x + uptoBulkEntries r
def uptoBulkEntry {H : Type} : Lit × DataW H → Nat
  | (.string bytes, d) => bytes.length + uptoBulk d + 1
  | (_, d) => uptoBulk d + 1
 end
def uptoSmall : (H : Type) → List (DataW H) → Bool := fun _ ds => decide (uptoBulkAll ds ≤ 1048576)
def OpenSpec.upto (s : _root_.Go.ChangeSpec) : _root_.Go.OpenSpec := { _root_.Go.OpenSpec.ofChange s with cond := some uptoSmall }

/-- 'turnstilelaw07.MerkleTrees', WHERE WHAT IT READS IS OF BULK AT MOST 1048576: true; the input reads as it did. -/
def merkleTreesUptoRow : OpenClaim := { program := "ytbemnhllcpopbaa", sum := "b3b958c2de70e76c4490bc7412204aafc8e30d1725ca7ac8d1e6fa8345fa47e1", func := "turnstile/turnstilelaw07.MerkleTrees", spec := "merkleTrees", unfollowed := true, recurses := true, apart := false, narrowed := true }
def MerkleTreesUptoSaid : Prop := merkleTreesUptoRow.holds Try.pinned (OpenSpec.upto merkleTreesSpec)

/-- 'turnstilelaw07.MerkleSigns', WHERE WHAT IT READS IS OF BULK AT MOST 1048576: true; the input reads as it did. -/
def merkleSignsUptoRow : OpenClaim := { program := "ytbemnhllcpopbaa", sum := "b3b958c2de70e76c4490bc7412204aafc8e30d1725ca7ac8d1e6fa8345fa47e1", func := "turnstile/turnstilelaw07.MerkleSigns", spec := "merkleSigns", unfollowed := true, recurses := true, apart := false, narrowed := true }
def MerkleSignsUptoSaid : Prop := merkleSignsUptoRow.holds Try.pinned (OpenSpec.upto merkleSignsSpec)

/-- 'turnstilelaw07.MerkleVerifies', WHERE WHAT IT READS IS OF BULK AT MOST 1048576: true; the input reads as it did. -/
def merkleVerifiesUptoRow : OpenClaim := { program := "ytbemnhllcpopbaa", sum := "b3b958c2de70e76c4490bc7412204aafc8e30d1725ca7ac8d1e6fa8345fa47e1", func := "turnstile/turnstilelaw07.MerkleVerifies", spec := "merkleVerifies", unfollowed := true, recurses := true, apart := false, narrowed := true }
def MerkleVerifiesUptoSaid : Prop := merkleVerifiesUptoRow.holds Try.pinned (OpenSpec.upto merkleVerifiesSpec)

/-- 'turnstilelaw07.MerklePaths', WHERE WHAT IT READS IS OF BULK AT MOST 1048576: true; the input reads as it did. -/
def merklePathsUptoRow : OpenClaim := { program := "ytbemnhllcpopbaa", sum := "b3b958c2de70e76c4490bc7412204aafc8e30d1725ca7ac8d1e6fa8345fa47e1", func := "turnstile/turnstilelaw07.MerklePaths", spec := "merklePaths", unfollowed := true, recurses := true, apart := false, narrowed := true }
def MerklePathsUptoSaid : Prop := merklePathsUptoRow.holds Try.pinned (OpenSpec.upto merklePathsSpec)

/-- 'turnstilelaw07.MerkleOnce', WHERE WHAT IT READS IS OF BULK AT MOST 1048576: true; the input reads as it did. -/
def merkleOnceUptoRow : OpenClaim := { program := "ytbemnhllcpopbaa", sum := "b3b958c2de70e76c4490bc7412204aafc8e30d1725ca7ac8d1e6fa8345fa47e1", func := "turnstile/turnstilelaw07.MerkleOnce", spec := "merkleOnce", unfollowed := true, recurses := true, apart := false, narrowed := true }
def MerkleOnceUptoSaid : Prop := merkleOnceUptoRow.holds Try.pinned (OpenSpec.upto merkleOnceSpec)

/-- 'turnstilelaw07.MerkleSame', WHERE WHAT IT READS IS OF BULK AT MOST 1048576: true; the input reads as it did. -/
def merkleSameUptoRow : OpenClaim := { program := "ytbemnhllcpopbaa", sum := "b3b958c2de70e76c4490bc7412204aafc8e30d1725ca7ac8d1e6fa8345fa47e1", func := "turnstile/turnstilelaw07.MerkleSame", spec := "merkleSame", unfollowed := true, recurses := true, apart := false, narrowed := true }
def MerkleSameUptoSaid : Prop := merkleSameUptoRow.holds Try.pinned (OpenSpec.upto merkleSameSpec)

end Rows
end Go.Proofs.Ytbemnhllcpopbaa
