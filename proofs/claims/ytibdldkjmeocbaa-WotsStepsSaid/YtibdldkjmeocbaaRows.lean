/-
  No cell of these rows narrows 'for every input' (looked for: loops, veiled, ifaces, maps, wideKeys, modest, calm, conditions, laid).
  DERIVED. THE GIVEN ROWS OF THIS SEAT. 6 by the template 'for every input the law returns true; each argument reads behind the call as it read before'; 0 by the template 'total and deterministic' (their statements: YtibdldkjmeocbaaTotals.lean).
  GIVEN WITH THE SEED: the statements are not yours to turn. If you find one false, say at which input.
  Laid BY PROGRAM, IN A SANDBOX (cutbox-rows.mjs): the forced cells as the released guide's own fill.sh prints them over the translation 82e3d823dcd83206… (all of the seat's roots in one cut). By AI agents, Wed Nov 11 2026. No macro, syntax, notation, axiom, sorry.
-/
import Derived.Test.YtibdldkjmeocbaaChecked
import GoSem.Claim
import GoSem.ClaimJoined
import GoSem.ClaimMapViews
import Derived.JoinedTies
import Derived.KernelRfl
namespace Go.Proofs.Ytibdldkjmeocbaa
/- THE CELL 'sum', in the pinned program and in every row, IS THE sha256 OF THE DUMP (.gsa) THAT YtibdldkjmeocbaaProg.lean LOADS. Nothing in Lean hashes anything: it is a label: what it is worth is what the hold of that sum in a sandbox is worth. -/
noncomputable def Try.pinned : Pinned := { name := "ytibdldkjmeocbaa", sum := "82e3d823dcd83206bee10e57d35c9c9004f8525350f00999d5848891593dcea2", checked := Try.checked }
namespace Rows
def none {H : Type} : Left H := { results := [], args := [] }

/-- 'turnstilelaw06.WotsSigns': WHATEVER THE INPUT: true; the input reads as it did. -/
def wotsSignsSpec : ChangeSpec := { name := "wotsSigns", fn := fun _ => fun
  | [d1, d2] => { results := [.lit (.bool true)], args := [d1, d2] }
  | _ => none }
def wotsSignsRow : OpenClaim := { program := "ytibdldkjmeocbaa", sum := "82e3d823dcd83206bee10e57d35c9c9004f8525350f00999d5848891593dcea2", func := "turnstile/turnstilelaw06.WotsSigns", spec := "wotsSigns", unfollowed := true, recurses := true, apart := false }
def WotsSignsSaid : Prop := wotsSignsRow.holds Try.pinned (OpenSpec.ofChange wotsSignsSpec)

/-- ITS FALSE NEIGHBOUR: 'it returns false'. Refute it at one input. -/
def wotsSignsWrong : ChangeSpec := { name := "wotsSigns", fn := fun _ => fun
  | [d1, d2] => { results := [.lit (.bool false)], args := [d1, d2] }
  | _ => none }
def WotsSignsWrongFalsely : Prop := wotsSignsRow.holds Try.pinned (OpenSpec.ofChange wotsSignsWrong)

/-- 'turnstilelaw06.WotsFrom': WHATEVER THE INPUT: true; the input reads as it did. -/
def wotsFromSpec : ChangeSpec := { name := "wotsFrom", fn := fun _ => fun
  | [d1, d2, d3] => { results := [.lit (.bool true)], args := [d1, d2, d3] }
  | _ => none }
def wotsFromRow : OpenClaim := { program := "ytibdldkjmeocbaa", sum := "82e3d823dcd83206bee10e57d35c9c9004f8525350f00999d5848891593dcea2", func := "turnstile/turnstilelaw06.WotsFrom", spec := "wotsFrom", unfollowed := true, recurses := true, apart := false }
def WotsFromSaid : Prop := wotsFromRow.holds Try.pinned (OpenSpec.ofChange wotsFromSpec)

/-- ITS FALSE NEIGHBOUR: 'it returns false'. Refute it at one input. -/
def wotsFromWrong : ChangeSpec := { name := "wotsFrom", fn := fun _ => fun
  | [d1, d2, d3] => { results := [.lit (.bool false)], args := [d1, d2, d3] }
  | _ => none }
def WotsFromWrongFalsely : Prop := wotsFromRow.holds Try.pinned (OpenSpec.ofChange wotsFromWrong)

/-- 'turnstilelaw06.WotsSteps': WHATEVER THE INPUT: true; the input reads as it did. -/
def wotsStepsSpec : ChangeSpec := { name := "wotsSteps", fn := fun _ => fun
  | [d1, d2, d3] => { results := [.lit (.bool true)], args := [d1, d2, d3] }
  | _ => none }
def wotsStepsRow : OpenClaim := { program := "ytibdldkjmeocbaa", sum := "82e3d823dcd83206bee10e57d35c9c9004f8525350f00999d5848891593dcea2", func := "turnstile/turnstilelaw06.WotsSteps", spec := "wotsSteps", unfollowed := true, recurses := true, apart := false }
def WotsStepsSaid : Prop := wotsStepsRow.holds Try.pinned (OpenSpec.ofChange wotsStepsSpec)

/-- ITS FALSE NEIGHBOUR: 'it returns false'. Refute it at one input. -/
def wotsStepsWrong : ChangeSpec := { name := "wotsSteps", fn := fun _ => fun
  | [d1, d2, d3] => { results := [.lit (.bool false)], args := [d1, d2, d3] }
  | _ => none }
def WotsStepsWrongFalsely : Prop := wotsStepsRow.holds Try.pinned (OpenSpec.ofChange wotsStepsWrong)

/-- 'turnstilelaw06.WotsBack': WHATEVER THE INPUT: true; the input reads as it did. -/
def wotsBackSpec : ChangeSpec := { name := "wotsBack", fn := fun _ => fun
  | [d1, d2] => { results := [.lit (.bool true)], args := [d1, d2] }
  | _ => none }
def wotsBackRow : OpenClaim := { program := "ytibdldkjmeocbaa", sum := "82e3d823dcd83206bee10e57d35c9c9004f8525350f00999d5848891593dcea2", func := "turnstile/turnstilelaw06.WotsBack", spec := "wotsBack", unfollowed := true, recurses := true, apart := false }
def WotsBackSaid : Prop := wotsBackRow.holds Try.pinned (OpenSpec.ofChange wotsBackSpec)

/-- ITS FALSE NEIGHBOUR: 'it returns false'. Refute it at one input. -/
def wotsBackWrong : ChangeSpec := { name := "wotsBack", fn := fun _ => fun
  | [d1, d2] => { results := [.lit (.bool false)], args := [d1, d2] }
  | _ => none }
def WotsBackWrongFalsely : Prop := wotsBackRow.holds Try.pinned (OpenSpec.ofChange wotsBackWrong)

/-- 'turnstilelaw06.WotsLess': WHATEVER THE INPUT: true; the input reads as it did. -/
def wotsLessSpec : ChangeSpec := { name := "wotsLess", fn := fun _ => fun
  | [d1, d2] => { results := [.lit (.bool true)], args := [d1, d2] }
  | _ => none }
def wotsLessRow : OpenClaim := { program := "ytibdldkjmeocbaa", sum := "82e3d823dcd83206bee10e57d35c9c9004f8525350f00999d5848891593dcea2", func := "turnstile/turnstilelaw06.WotsLess", spec := "wotsLess", unfollowed := true, recurses := true, apart := false }
def WotsLessSaid : Prop := wotsLessRow.holds Try.pinned (OpenSpec.ofChange wotsLessSpec)

/-- ITS FALSE NEIGHBOUR: 'it returns false'. Refute it at one input. -/
def wotsLessWrong : ChangeSpec := { name := "wotsLess", fn := fun _ => fun
  | [d1, d2] => { results := [.lit (.bool false)], args := [d1, d2] }
  | _ => none }
def WotsLessWrongFalsely : Prop := wotsLessRow.holds Try.pinned (OpenSpec.ofChange wotsLessWrong)

/-- 'turnstilelaw06.WotsChains': WHATEVER THE INPUT: true; the input reads as it did. -/
def wotsChainsSpec : ChangeSpec := { name := "wotsChains", fn := fun _ => fun
  | [d1, d2] => { results := [.lit (.bool true)], args := [d1, d2] }
  | _ => none }
def wotsChainsRow : OpenClaim := { program := "ytibdldkjmeocbaa", sum := "82e3d823dcd83206bee10e57d35c9c9004f8525350f00999d5848891593dcea2", func := "turnstile/turnstilelaw06.WotsChains", spec := "wotsChains", unfollowed := true, recurses := true, apart := false }
def WotsChainsSaid : Prop := wotsChainsRow.holds Try.pinned (OpenSpec.ofChange wotsChainsSpec)

/-- ITS FALSE NEIGHBOUR: 'it returns false'. Refute it at one input. -/
def wotsChainsWrong : ChangeSpec := { name := "wotsChains", fn := fun _ => fun
  | [d1, d2] => { results := [.lit (.bool false)], args := [d1, d2] }
  | _ => none }
def WotsChainsWrongFalsely : Prop := wotsChainsRow.holds Try.pinned (OpenSpec.ofChange wotsChainsWrong)

/- THE SECOND FORM. 'bulk': how many values and letters a reading holds, each counted each time it is reached (what is shared counts as often as it is met; a slice's spare places count too). A statement '..UptoSaid' is the law's where the arguments, and the package variables that the reading takes, are together of bulk at most 1048576: NARROWER than '..Said'. Prove '..Said' where nothing that the law and all that it calls make is longer than what came in: it says more and counts as full. Else prove '..UptoSaid'. A law counts once. -/
mutual
def uptoBulk {H : Type} : DataW H → Nat
  | .lit (.string bytes) => bytes.length + 1
  | .lit _ => 1
  | .nil => 1
  | .ptr d => uptoBulk d + 1
  | .slice elems spare => uptoBulkAll elems + uptoBulkAll spare + 1
  | .agg parts => uptoBulkAll parts + 1
  | .iface _ d => uptoBulk d + 1
  | .map entries => uptoBulkEntries entries + 1
  | .held _ => 1
def uptoBulkAll {H : Type} : List (DataW H) → Nat
  | [] => 0
  | d :: r => uptoBulk d + uptoBulkAll r
def uptoBulkEntries {H : Type} : List (Lit × DataW H) → Nat
  | [] => 0
  | x :: r => uptoBulkEntry x + uptoBulkEntries r
def uptoBulkEntry {H : Type} : Lit × DataW H → Nat
  | (.string bytes, d) => bytes.length + uptoBulk d + 1
  | (_, d) => uptoBulk d + 1
 end
def uptoSmall : (H : Type) → List (DataW H) → Bool := fun _ ds => decide (uptoBulkAll ds ≤ 1048576)
def OpenSpec.upto (s : _root_.Go.ChangeSpec) : _root_.Go.OpenSpec := { _root_.Go.OpenSpec.ofChange s with cond := some uptoSmall }

/-- 'turnstilelaw06.WotsSigns', WHERE WHAT IT READS IS OF BULK AT MOST 1048576: true; the input reads as it did. -/
def wotsSignsUptoRow : OpenClaim := { program := "ytibdldkjmeocbaa", sum := "82e3d823dcd83206bee10e57d35c9c9004f8525350f00999d5848891593dcea2", func := "turnstile/turnstilelaw06.WotsSigns", spec := "wotsSigns", unfollowed := true, recurses := true, apart := false, narrowed := true }
def WotsSignsUptoSaid : Prop := wotsSignsUptoRow.holds Try.pinned (OpenSpec.upto wotsSignsSpec)

/-- 'turnstilelaw06.WotsFrom', WHERE WHAT IT READS IS OF BULK AT MOST 1048576: true; the input reads as it did. -/
def wotsFromUptoRow : OpenClaim := { program := "ytibdldkjmeocbaa", sum := "82e3d823dcd83206bee10e57d35c9c9004f8525350f00999d5848891593dcea2", func := "turnstile/turnstilelaw06.WotsFrom", spec := "wotsFrom", unfollowed := true, recurses := true, apart := false, narrowed := true }
def WotsFromUptoSaid : Prop := wotsFromUptoRow.holds Try.pinned (OpenSpec.upto wotsFromSpec)

/-- 'turnstilelaw06.WotsSteps', WHERE WHAT IT READS IS OF BULK AT MOST 1048576: true; the input reads as it did. -/
def wotsStepsUptoRow : OpenClaim := { program := "ytibdldkjmeocbaa", sum := "82e3d823dcd83206bee10e57d35c9c9004f8525350f00999d5848891593dcea2", func := "turnstile/turnstilelaw06.WotsSteps", spec := "wotsSteps", unfollowed := true, recurses := true, apart := false, narrowed := true }
def WotsStepsUptoSaid : Prop := wotsStepsUptoRow.holds Try.pinned (OpenSpec.upto wotsStepsSpec)

/-- 'turnstilelaw06.WotsBack', WHERE WHAT IT READS IS OF BULK AT MOST 1048576: true; the input reads as it did. -/
def wotsBackUptoRow : OpenClaim := { program := "ytibdldkjmeocbaa", sum := "82e3d823dcd83206bee10e57d35c9c9004f8525350f00999d5848891593dcea2", func := "turnstile/turnstilelaw06.WotsBack", spec := "wotsBack", unfollowed := true, recurses := true, apart := false, narrowed := true }
def WotsBackUptoSaid : Prop := wotsBackUptoRow.holds Try.pinned (OpenSpec.upto wotsBackSpec)

/-- 'turnstilelaw06.WotsLess', WHERE WHAT IT READS IS OF BULK AT MOST 1048576: true; the input reads as it did. -/
def wotsLessUptoRow : OpenClaim := { program := "ytibdldkjmeocbaa", sum := "82e3d823dcd83206bee10e57d35c9c9004f8525350f00999d5848891593dcea2", func := "turnstile/turnstilelaw06.WotsLess", spec := "wotsLess", unfollowed := true, recurses := true, apart := false, narrowed := true }
def WotsLessUptoSaid : Prop := wotsLessUptoRow.holds Try.pinned (OpenSpec.upto wotsLessSpec)

/-- 'turnstilelaw06.WotsChains', WHERE WHAT IT READS IS OF BULK AT MOST 1048576: true; the input reads as it did. -/
def wotsChainsUptoRow : OpenClaim := { program := "ytibdldkjmeocbaa", sum := "82e3d823dcd83206bee10e57d35c9c9004f8525350f00999d5848891593dcea2", func := "turnstile/turnstilelaw06.WotsChains", spec := "wotsChains", unfollowed := true, recurses := true, apart := false, narrowed := true }
def WotsChainsUptoSaid : Prop := wotsChainsUptoRow.holds Try.pinned (OpenSpec.upto wotsChainsSpec)

end Rows
end Go.Proofs.Ytibdldkjmeocbaa
