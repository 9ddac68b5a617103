/-
  No cell of these rows narrows 'for every input' (looked for: loops, veiled, ifaces, maps, wideKeys, modest, calm, conditions, laid).
  DERIVED. THE GIVEN ROWS OF THIS SEAT. 5 by the template 'for every input the law returns true; each argument reads behind the call as it read before'; 0 by the template 'total and deterministic' (their statements: YtfpihahfdmcneaaTotals.lean).
  GIVEN WITH THE SEED: the statements are not yours to turn. If you find one false, say at which input.
  Laid BY PROGRAM, IN A SANDBOX (cutbox-rows.mjs): the forced cells as the released guide's own fill.sh prints them over the translation f341ec12f2b6cf49… (all of the seat's roots in one cut). By AI agents, Wed Nov 11 2026. No macro, syntax, notation, axiom, sorry.
-/
import Derived.Test.YtfpihahfdmcneaaChecked
import GoSem.Claim
import GoSem.ClaimJoined
import GoSem.ClaimMapViews
import Derived.JoinedTies
import Derived.KernelRfl
namespace Go.Proofs.Ytfpihahfdmcneaa
/- THE CELL 'sum', in the pinned program and in every row, IS THE sha256 OF THE DUMP (.gsa) THAT YtfpihahfdmcneaaProg.lean LOADS. Nothing in Lean hashes anything: it is a label: what it is worth is what the hold of that sum in a sandbox is worth. -/
noncomputable def Try.pinned : Pinned := { name := "ytfpihahfdmcneaa", sum := "f341ec12f2b6cf4935a2e0b06b8525af9e4cdf991a781b13b8ef27487c72ca54", checked := Try.checked }
namespace Rows
def none {H : Type} : Left H := { results := [], args := [] }

/-- 'turnstilelaw04.PaywordChains': WHATEVER THE INPUT: true; the input reads as it did. -/
def paywordChainsSpec : ChangeSpec := { name := "paywordChains", fn := fun _ => fun
  | [d1, d2, d3] => { results := [.lit (.bool true)], args := [d1, d2, d3] }
  | _ => none }
def paywordChainsRow : OpenClaim := { program := "ytfpihahfdmcneaa", sum := "f341ec12f2b6cf4935a2e0b06b8525af9e4cdf991a781b13b8ef27487c72ca54", func := "turnstile/turnstilelaw04.PaywordChains", spec := "paywordChains", unfollowed := true, recurses := true, apart := false }
def PaywordChainsSaid : Prop := paywordChainsRow.holds Try.pinned (OpenSpec.ofChange paywordChainsSpec)

/-- ITS FALSE NEIGHBOUR: 'it returns false'. Refute it at one input. -/
def paywordChainsWrong : ChangeSpec := { name := "paywordChains", fn := fun _ => fun
  | [d1, d2, d3] => { results := [.lit (.bool false)], args := [d1, d2, d3] }
  | _ => none }
def PaywordChainsWrongFalsely : Prop := paywordChainsRow.holds Try.pinned (OpenSpec.ofChange paywordChainsWrong)

/-- 'turnstilelaw04.PaywordCounts': WHATEVER THE INPUT: true; the input reads as it did. -/
def paywordCountsSpec : ChangeSpec := { name := "paywordCounts", fn := fun _ => fun
  | [d1, d2, d3] => { results := [.lit (.bool true)], args := [d1, d2, d3] }
  | _ => none }
def paywordCountsRow : OpenClaim := { program := "ytfpihahfdmcneaa", sum := "f341ec12f2b6cf4935a2e0b06b8525af9e4cdf991a781b13b8ef27487c72ca54", func := "turnstile/turnstilelaw04.PaywordCounts", spec := "paywordCounts", unfollowed := true, recurses := true, apart := false }
def PaywordCountsSaid : Prop := paywordCountsRow.holds Try.pinned (OpenSpec.ofChange paywordCountsSpec)

/-- ITS FALSE NEIGHBOUR: 'it returns false'. Refute it at one input. -/
def paywordCountsWrong : ChangeSpec := { name := "paywordCounts", fn := fun _ => fun
  | [d1, d2, d3] => { results := [.lit (.bool false)], args := [d1, d2, d3] }
  | _ => none }
def PaywordCountsWrongFalsely : Prop := paywordCountsRow.holds Try.pinned (OpenSpec.ofChange paywordCountsWrong)

/-- 'turnstilelaw04.PaywordLeads': WHATEVER THE INPUT: true; the input reads as it did. -/
def paywordLeadsSpec : ChangeSpec := { name := "paywordLeads", fn := fun _ => fun
  | [d1, d2] => { results := [.lit (.bool true)], args := [d1, d2] }
  | _ => none }
def paywordLeadsRow : OpenClaim := { program := "ytfpihahfdmcneaa", sum := "f341ec12f2b6cf4935a2e0b06b8525af9e4cdf991a781b13b8ef27487c72ca54", func := "turnstile/turnstilelaw04.PaywordLeads", spec := "paywordLeads", unfollowed := true, recurses := true, apart := false }
def PaywordLeadsSaid : Prop := paywordLeadsRow.holds Try.pinned (OpenSpec.ofChange paywordLeadsSpec)

/-- ITS FALSE NEIGHBOUR: 'it returns false'. Refute it at one input. -/
def paywordLeadsWrong : ChangeSpec := { name := "paywordLeads", fn := fun _ => fun
  | [d1, d2] => { results := [.lit (.bool false)], args := [d1, d2] }
  | _ => none }
def PaywordLeadsWrongFalsely : Prop := paywordLeadsRow.holds Try.pinned (OpenSpec.ofChange paywordLeadsWrong)

/-- 'turnstilelaw04.PaywordFar': WHATEVER THE INPUT: true; the input reads as it did. -/
def paywordFarSpec : ChangeSpec := { name := "paywordFar", fn := fun _ => fun
  | [d1, d2, d3] => { results := [.lit (.bool true)], args := [d1, d2, d3] }
  | _ => none }
def paywordFarRow : OpenClaim := { program := "ytfpihahfdmcneaa", sum := "f341ec12f2b6cf4935a2e0b06b8525af9e4cdf991a781b13b8ef27487c72ca54", func := "turnstile/turnstilelaw04.PaywordFar", spec := "paywordFar", unfollowed := true, recurses := true, apart := false }
def PaywordFarSaid : Prop := paywordFarRow.holds Try.pinned (OpenSpec.ofChange paywordFarSpec)

/-- ITS FALSE NEIGHBOUR: 'it returns false'. Refute it at one input. -/
def paywordFarWrong : ChangeSpec := { name := "paywordFar", fn := fun _ => fun
  | [d1, d2, d3] => { results := [.lit (.bool false)], args := [d1, d2, d3] }
  | _ => none }
def PaywordFarWrongFalsely : Prop := paywordFarRow.holds Try.pinned (OpenSpec.ofChange paywordFarWrong)

/-- 'turnstilelaw04.PaywordValues': WHATEVER THE INPUT: true; the input reads as it did. -/
def paywordValuesSpec : ChangeSpec := { name := "paywordValues", fn := fun _ => fun
  | [d1, d2, d3] => { results := [.lit (.bool true)], args := [d1, d2, d3] }
  | _ => none }
def paywordValuesRow : OpenClaim := { program := "ytfpihahfdmcneaa", sum := "f341ec12f2b6cf4935a2e0b06b8525af9e4cdf991a781b13b8ef27487c72ca54", func := "turnstile/turnstilelaw04.PaywordValues", spec := "paywordValues", unfollowed := true, recurses := true, apart := false }
def PaywordValuesSaid : Prop := paywordValuesRow.holds Try.pinned (OpenSpec.ofChange paywordValuesSpec)

/-- ITS FALSE NEIGHBOUR: 'it returns false'. Refute it at one input. -/
def paywordValuesWrong : ChangeSpec := { name := "paywordValues", fn := fun _ => fun
  | [d1, d2, d3] => { results := [.lit (.bool false)], args := [d1, d2, d3] }
  | _ => none }
def PaywordValuesWrongFalsely : Prop := paywordValuesRow.holds Try.pinned (OpenSpec.ofChange paywordValuesWrong)

/- THE SECOND FORM. 'bulk': how many values and letters a reading holds, each counted each time it is reached (what is shared counts as often as it is met; a slice's spare places count too). A statement '..UptoSaid' is the law's where the arguments, and the package variables that the reading takes, are together of bulk at most 1048576: NARROWER than '..Said'. Prove '..Said' where nothing that the law and all that it calls make is longer than what came in: it says more and counts as full. Else prove '..UptoSaid'. A law counts once. -/
mutual
def uptoBulk {H : Type} : DataW H → Nat
  | .lit (.string bytes) => bytes.length + 1
  | .lit _ => 1
  | .nil => 1
  | .ptr d => uptoBulk d + 1
  | .slice elems spare => uptoBulkAll elems + uptoBulkAll spare + 1
  | .agg parts => uptoBulkAll parts + 1
  | .iface _ d => uptoBulk d + 1
  | .map entries => uptoBulkEntries entries + 1
  | .held _ => 1
def uptoBulkAll {H : Type} : List (DataW H) → Nat
  | [] => 0
  | d :: r => uptoBulk d + uptoBulkAll r
def uptoBulkEntries {H : Type} : List (Lit × DataW H) → Nat
  | [] => 0
  | x :: r => uptoBulkEntry x + uptoBulkEntries r
def uptoBulkEntry {H : Type} : Lit × DataW H → Nat
  | (.string bytes, d) => bytes.length + uptoBulk d + 1
  | (_, d) => uptoBulk d + 1
 end
def uptoSmall : (H : Type) → List (DataW H) → Bool := fun _ ds => decide (uptoBulkAll ds ≤ 1048576)
def OpenSpec.upto (s : _root_.Go.ChangeSpec) : _root_.Go.OpenSpec := { _root_.Go.OpenSpec.ofChange s with cond := some uptoSmall }

/-- 'turnstilelaw04.PaywordChains', WHERE WHAT IT READS IS OF BULK AT MOST 1048576: true; the input reads as it did. -/
def paywordChainsUptoRow : OpenClaim := { program := "ytfpihahfdmcneaa", sum := "f341ec12f2b6cf4935a2e0b06b8525af9e4cdf991a781b13b8ef27487c72ca54", func := "turnstile/turnstilelaw04.PaywordChains", spec := "paywordChains", unfollowed := true, recurses := true, apart := false, narrowed := true }
def PaywordChainsUptoSaid : Prop := paywordChainsUptoRow.holds Try.pinned (OpenSpec.upto paywordChainsSpec)

/-- 'turnstilelaw04.PaywordCounts', WHERE WHAT IT READS IS OF BULK AT MOST 1048576: true; the input reads as it did. -/
def paywordCountsUptoRow : OpenClaim := { program := "ytfpihahfdmcneaa", sum := "f341ec12f2b6cf4935a2e0b06b8525af9e4cdf991a781b13b8ef27487c72ca54", func := "turnstile/turnstilelaw04.PaywordCounts", spec := "paywordCounts", unfollowed := true, recurses := true, apart := false, narrowed := true }
def PaywordCountsUptoSaid : Prop := paywordCountsUptoRow.holds Try.pinned (OpenSpec.upto paywordCountsSpec)

/-- 'turnstilelaw04.PaywordLeads', WHERE WHAT IT READS IS OF BULK AT MOST 1048576: true; the input reads as it did. -/
def paywordLeadsUptoRow : OpenClaim := { program := "ytfpihahfdmcneaa", sum := "f341ec12f2b6cf4935a2e0b06b8525af9e4cdf991a781b13b8ef27487c72ca54", func := "turnstile/turnstilelaw04.PaywordLeads", spec := "paywordLeads", unfollowed := true, recurses := true, apart := false, narrowed := true }
def PaywordLeadsUptoSaid : Prop := paywordLeadsUptoRow.holds Try.pinned (OpenSpec.upto paywordLeadsSpec)

/-- 'turnstilelaw04.PaywordFar', WHERE WHAT IT READS IS OF BULK AT MOST 1048576: true; the input reads as it did. -/
def paywordFarUptoRow : OpenClaim := { program := "ytfpihahfdmcneaa", sum := "f341ec12f2b6cf4935a2e0b06b8525af9e4cdf991a781b13b8ef27487c72ca54", func := "turnstile/turnstilelaw04.PaywordFar", spec := "paywordFar", unfollowed := true, recurses := true, apart := false, narrowed := true }
def PaywordFarUptoSaid : Prop := paywordFarUptoRow.holds Try.pinned (OpenSpec.upto paywordFarSpec)

/-- 'turnstilelaw04.PaywordValues', WHERE WHAT IT READS IS OF BULK AT MOST 1048576: true; the input reads as it did. -/
def paywordValuesUptoRow : OpenClaim := { program := "ytfpihahfdmcneaa", sum := "f341ec12f2b6cf4935a2e0b06b8525af9e4cdf991a781b13b8ef27487c72ca54", func := "turnstile/turnstilelaw04.PaywordValues", spec := "paywordValues", unfollowed := true, recurses := true, apart := false, narrowed := true }
def PaywordValuesUptoSaid : Prop := paywordValuesUptoRow.holds Try.pinned (OpenSpec.upto paywordValuesSpec)

end Rows
end Go.Proofs.Ytfpihahfdmcneaa
