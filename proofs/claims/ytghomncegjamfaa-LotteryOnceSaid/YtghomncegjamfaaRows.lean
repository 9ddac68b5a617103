/-
  No cell of these rows narrows 'for every input' (looked for: loops, veiled, ifaces, maps, wideKeys, modest, calm, conditions, laid).
  DERIVED. THE GIVEN ROWS OF THIS SEAT. 4 by the template 'for every input the law returns true; each argument reads behind the call as it read before'; 0 by the template 'total and deterministic' (their statements: YtghomncegjamfaaTotals.lean).
  GIVEN WITH THE SEED: the statements are not yours to turn. If you find one false, say at which input.
  Laid BY PROGRAM, IN A SANDBOX (cutbox-rows.mjs): the forced cells as the released guide's own fill.sh prints them over the translation 1122c97ffb26b598… (all of the seat's roots in one cut). By AI agents, Wed Nov 11 2026. No macro, syntax, notation, axiom, sorry.
-/
import Derived.Test.YtghomncegjamfaaChecked
import GoSem.Claim
import GoSem.ClaimJoined
import GoSem.ClaimMapViews
import Derived.JoinedTies
import Derived.KernelRfl
namespace Go.Proofs.Ytghomncegjamfaa
/- THE CELL 'sum', in the pinned program and in every row, IS THE sha256 OF THE DUMP (.gsa) THAT YtghomncegjamfaaProg.lean LOADS. Nothing in Lean hashes anything: it is a label: what it is worth is what the hold of that sum in a sandbox is worth. -/
noncomputable def Try.pinned : Pinned := { name := "ytghomncegjamfaa", sum := "1122c97ffb26b598ce7b8de4f6314138460f6f62a840792cc939a9d45273fe3a", checked := Try.checked }
namespace Rows
def none {H : Type} : Left H := { results := [], args := [] }

/-- 'turnstilelaw16.LotteryFamily': WHATEVER THE INPUT: true; the input reads as it did. -/
def lotteryFamilySpec : ChangeSpec := { name := "lotteryFamily", fn := fun _ => fun
  | [d1, d2, d3] => { results := [.lit (.bool true)], args := [d1, d2, d3] }
  | _ => none }
def lotteryFamilyRow : OpenClaim := { program := "ytghomncegjamfaa", sum := "1122c97ffb26b598ce7b8de4f6314138460f6f62a840792cc939a9d45273fe3a", func := "turnstile/turnstilelaw16.LotteryFamily", spec := "lotteryFamily", unfollowed := true, recurses := true, apart := false }
def LotteryFamilySaid : Prop := lotteryFamilyRow.holds Try.pinned (OpenSpec.ofChange lotteryFamilySpec)

/-- ITS FALSE NEIGHBOUR: 'it returns false'. Refute it at one input. -/
def lotteryFamilyWrong : ChangeSpec := { name := "lotteryFamily", fn := fun _ => fun
  | [d1, d2, d3] => { results := [.lit (.bool false)], args := [d1, d2, d3] }
  | _ => none }
def LotteryFamilyWrongFalsely : Prop := lotteryFamilyRow.holds Try.pinned (OpenSpec.ofChange lotteryFamilyWrong)

/-- 'turnstilelaw16.LotteryOnce': WHATEVER THE INPUT: true; the input reads as it did. -/
def lotteryOnceSpec : ChangeSpec := { name := "lotteryOnce", fn := fun _ => fun
  | [d1, d2] => { results := [.lit (.bool true)], args := [d1, d2] }
  | _ => none }
def lotteryOnceRow : OpenClaim := { program := "ytghomncegjamfaa", sum := "1122c97ffb26b598ce7b8de4f6314138460f6f62a840792cc939a9d45273fe3a", func := "turnstile/turnstilelaw16.LotteryOnce", spec := "lotteryOnce", unfollowed := true, recurses := true, apart := false }
def LotteryOnceSaid : Prop := lotteryOnceRow.holds Try.pinned (OpenSpec.ofChange lotteryOnceSpec)

/-- ITS FALSE NEIGHBOUR: 'it returns false'. Refute it at one input. -/
def lotteryOnceWrong : ChangeSpec := { name := "lotteryOnce", fn := fun _ => fun
  | [d1, d2] => { results := [.lit (.bool false)], args := [d1, d2] }
  | _ => none }
def LotteryOnceWrongFalsely : Prop := lotteryOnceRow.holds Try.pinned (OpenSpec.ofChange lotteryOnceWrong)

/-- 'turnstilelaw16.LotteryPuts': WHATEVER THE INPUT: true; the input reads as it did. -/
def lotteryPutsSpec : ChangeSpec := { name := "lotteryPuts", fn := fun _ => fun
  | [d] => { results := [.lit (.bool true)], args := [d] }
  | _ => none }
def lotteryPutsRow : OpenClaim := { program := "ytghomncegjamfaa", sum := "1122c97ffb26b598ce7b8de4f6314138460f6f62a840792cc939a9d45273fe3a", func := "turnstile/turnstilelaw16.LotteryPuts", spec := "lotteryPuts", unfollowed := true, recurses := true, apart := false }
def LotteryPutsSaid : Prop := lotteryPutsRow.holds Try.pinned (OpenSpec.ofChange lotteryPutsSpec)

/-- ITS FALSE NEIGHBOUR: 'it returns false'. Refute it at one input. -/
def lotteryPutsWrong : ChangeSpec := { name := "lotteryPuts", fn := fun _ => fun
  | [d] => { results := [.lit (.bool false)], args := [d] }
  | _ => none }
def LotteryPutsWrongFalsely : Prop := lotteryPutsRow.holds Try.pinned (OpenSpec.ofChange lotteryPutsWrong)

/-- 'turnstilelaw16.LotteryHides': WHATEVER THE INPUT: true; the input reads as it did. -/
def lotteryHidesSpec : ChangeSpec := { name := "lotteryHides", fn := fun _ => fun
  | [d1, d2, d3] => { results := [.lit (.bool true)], args := [d1, d2, d3] }
  | _ => none }
def lotteryHidesRow : OpenClaim := { program := "ytghomncegjamfaa", sum := "1122c97ffb26b598ce7b8de4f6314138460f6f62a840792cc939a9d45273fe3a", func := "turnstile/turnstilelaw16.LotteryHides", spec := "lotteryHides", unfollowed := true, recurses := true, apart := false }
def LotteryHidesSaid : Prop := lotteryHidesRow.holds Try.pinned (OpenSpec.ofChange lotteryHidesSpec)

/-- ITS FALSE NEIGHBOUR: 'it returns false'. Refute it at one input. -/
def lotteryHidesWrong : ChangeSpec := { name := "lotteryHides", fn := fun _ => fun
  | [d1, d2, d3] => { results := [.lit (.bool false)], args := [d1, d2, d3] }
  | _ => none }
def LotteryHidesWrongFalsely : Prop := lotteryHidesRow.holds Try.pinned (OpenSpec.ofChange lotteryHidesWrong)

/- THE SECOND FORM. 'bulk': how many values and letters a reading holds, each counted each time it is reached (what is shared counts as often as it is met; a slice's spare places count too). A statement '..UptoSaid' is the law's where the arguments, and the package variables that the reading takes, are together of bulk at most 1048576: NARROWER than '..Said'. Prove '..Said' where nothing that the law and all that it calls make is longer than what came in: it says more and counts as full. Else prove '..UptoSaid'. A law counts once. -/
mutual
def uptoBulk {H : Type} : DataW H → Nat
  | .lit (.string bytes) => bytes.length + 1
  | .lit _ => 1
  | .nil => 1
  | .ptr d => uptoBulk d + 1
  | .slice elems spare => uptoBulkAll elems + uptoBulkAll spare + 1
  | .agg parts => uptoBulkAll parts + 1
  | .iface _ d => uptoBulk d + 1
  | .map entries => uptoBulkEntries entries + 1
  | .held _ => 1
def uptoBulkAll {H : Type} : List (DataW H) → Nat
  | [] => 0
  | d :: r => uptoBulk d + uptoBulkAll r
def uptoBulkEntries {H : Type} : List (Lit × DataW H) → Nat
  | [] => 0
  | x :: r => uptoBulkEntry x + uptoBulkEntries r
def uptoBulkEntry {H : Type} : Lit × DataW H → Nat
  | (.string bytes, d) => bytes.length + uptoBulk d + 1
  | (_, d) => uptoBulk d + 1
 end
def uptoSmall : (H : Type) → List (DataW H) → Bool := fun _ ds => decide (uptoBulkAll ds ≤ 1048576)
def OpenSpec.upto (s : _root_.Go.ChangeSpec) : _root_.Go.OpenSpec := { _root_.Go.OpenSpec.ofChange s with cond := some uptoSmall }

/-- 'turnstilelaw16.LotteryFamily', WHERE WHAT IT READS IS OF BULK AT MOST 1048576: true; the input reads as it did. -/
def lotteryFamilyUptoRow : OpenClaim := { program := "ytghomncegjamfaa", sum := "1122c97ffb26b598ce7b8de4f6314138460f6f62a840792cc939a9d45273fe3a", func := "turnstile/turnstilelaw16.LotteryFamily", spec := "lotteryFamily", unfollowed := true, recurses := true, apart := false, narrowed := true }
def LotteryFamilyUptoSaid : Prop := lotteryFamilyUptoRow.holds Try.pinned (OpenSpec.upto lotteryFamilySpec)

/-- 'turnstilelaw16.LotteryOnce', WHERE WHAT IT READS IS OF BULK AT MOST 1048576: true; the input reads as it did. -/
def lotteryOnceUptoRow : OpenClaim := { program := "ytghomncegjamfaa", sum := "1122c97ffb26b598ce7b8de4f6314138460f6f62a840792cc939a9d45273fe3a", func := "turnstile/turnstilelaw16.LotteryOnce", spec := "lotteryOnce", unfollowed := true, recurses := true, apart := false, narrowed := true }
def LotteryOnceUptoSaid : Prop := lotteryOnceUptoRow.holds Try.pinned (OpenSpec.upto lotteryOnceSpec)

/-- 'turnstilelaw16.LotteryPuts', WHERE WHAT IT READS IS OF BULK AT MOST 1048576: true; the input reads as it did. -/
def lotteryPutsUptoRow : OpenClaim := { program := "ytghomncegjamfaa", sum := "1122c97ffb26b598ce7b8de4f6314138460f6f62a840792cc939a9d45273fe3a", func := "turnstile/turnstilelaw16.LotteryPuts", spec := "lotteryPuts", unfollowed := true, recurses := true, apart := false, narrowed := true }
def LotteryPutsUptoSaid : Prop := lotteryPutsUptoRow.holds Try.pinned (OpenSpec.upto lotteryPutsSpec)

/-- 'turnstilelaw16.LotteryHides', WHERE WHAT IT READS IS OF BULK AT MOST 1048576: true; the input reads as it did. -/
def lotteryHidesUptoRow : OpenClaim := { program := "ytghomncegjamfaa", sum := "1122c97ffb26b598ce7b8de4f6314138460f6f62a840792cc939a9d45273fe3a", func := "turnstile/turnstilelaw16.LotteryHides", spec := "lotteryHides", unfollowed := true, recurses := true, apart := false, narrowed := true }
def LotteryHidesUptoSaid : Prop := lotteryHidesUptoRow.holds Try.pinned (OpenSpec.upto lotteryHidesSpec)

end Rows
end Go.Proofs.Ytghomncegjamfaa
