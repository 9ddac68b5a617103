/-
  No cell of these rows narrows 'for every input' (looked for: loops, veiled, ifaces, maps, wideKeys, modest, calm, conditions, laid).
  DERIVED. THE GIVEN ROWS OF THIS SEAT. 6 by the template 'for every input the law returns true; each argument reads behind the call as it read before'; 0 by the template 'total and deterministic' (their statements: YtafckmfahfkcpaaTotals.lean).
  GIVEN WITH THE SEED: the statements are not yours to turn. If you find one false, say at which input.
  Laid BY PROGRAM, IN A SANDBOX (cutbox-rows.mjs): the forced cells as the released guide's own fill.sh prints them over the translation 944816a038448f54… (all of the seat's roots in one cut). By AI agents, Wed Nov 11 2026. No macro, syntax, notation, axiom, sorry.
-/
import Derived.Test.YtafckmfahfkcpaaChecked
import GoSem.Claim
import GoSem.ClaimJoined
import GoSem.ClaimMapViews
import Derived.JoinedTies
import Derived.KernelRfl
namespace Go.Proofs.Ytafckmfahfkcpaa
/- THE CELL 'sum', in the pinned program and in every row, IS THE sha256 OF THE DUMP (.gsa) THAT YtafckmfahfkcpaaProg.lean LOADS. Nothing in Lean hashes anything: it is a label: what it is worth is what the hold of that sum in a sandbox is worth. -/
noncomputable def Try.pinned : Pinned := { name := "ytafckmfahfkcpaa", sum := "944816a038448f5434e889299b2c3e904a0e2e08b64c184df6c308b6f3229a5b", checked := Try.checked }
namespace Rows
def none {H : Type} : Left H := { results := [], args := [] }

/-- 'turnstilelaw05.DrawTells': WHATEVER THE INPUT: true; the input reads as it did. -/
def drawTellsSpec : ChangeSpec := { name := "drawTells", fn := fun _ => fun
  | [d1, d2, d3] => { results := [.lit (.bool true)], args := [d1, d2, d3] }
  | _ => none }
def drawTellsRow : OpenClaim := { program := "ytafckmfahfkcpaa", sum := "944816a038448f5434e889299b2c3e904a0e2e08b64c184df6c308b6f3229a5b", func := "turnstile/turnstilelaw05.DrawTells", spec := "drawTells", apart := false }
def DrawTellsSaid : Prop := drawTellsRow.holds Try.pinned (OpenSpec.ofChange drawTellsSpec)

/-- ITS FALSE NEIGHBOUR: 'it returns false'. Refute it at one input. -/
def drawTellsWrong : ChangeSpec := { name := "drawTells", fn := fun _ => fun
  | [d1, d2, d3] => { results := [.lit (.bool false)], args := [d1, d2, d3] }
  | _ => none }
def DrawTellsWrongFalsely : Prop := drawTellsRow.holds Try.pinned (OpenSpec.ofChange drawTellsWrong)

/-- 'turnstilelaw05.DrawHides': WHATEVER THE INPUT: true; the input reads as it did. -/
def drawHidesSpec : ChangeSpec := { name := "drawHides", fn := fun _ => fun
  | [d1, d2, d3] => { results := [.lit (.bool true)], args := [d1, d2, d3] }
  | _ => none }
def drawHidesRow : OpenClaim := { program := "ytafckmfahfkcpaa", sum := "944816a038448f5434e889299b2c3e904a0e2e08b64c184df6c308b6f3229a5b", func := "turnstile/turnstilelaw05.DrawHides", spec := "drawHides", apart := false }
def DrawHidesSaid : Prop := drawHidesRow.holds Try.pinned (OpenSpec.ofChange drawHidesSpec)

/-- ITS FALSE NEIGHBOUR: 'it returns false'. Refute it at one input. -/
def drawHidesWrong : ChangeSpec := { name := "drawHides", fn := fun _ => fun
  | [d1, d2, d3] => { results := [.lit (.bool false)], args := [d1, d2, d3] }
  | _ => none }
def DrawHidesWrongFalsely : Prop := drawHidesRow.holds Try.pinned (OpenSpec.ofChange drawHidesWrong)

/-- 'turnstilelaw05.DrawFamily': WHATEVER THE INPUT: true; the input reads as it did. -/
def drawFamilySpec : ChangeSpec := { name := "drawFamily", fn := fun _ => fun
  | [d1, d2, d3] => { results := [.lit (.bool true)], args := [d1, d2, d3] }
  | _ => none }
def drawFamilyRow : OpenClaim := { program := "ytafckmfahfkcpaa", sum := "944816a038448f5434e889299b2c3e904a0e2e08b64c184df6c308b6f3229a5b", func := "turnstile/turnstilelaw05.DrawFamily", spec := "drawFamily", apart := false }
def DrawFamilySaid : Prop := drawFamilyRow.holds Try.pinned (OpenSpec.ofChange drawFamilySpec)

/-- ITS FALSE NEIGHBOUR: 'it returns false'. Refute it at one input. -/
def drawFamilyWrong : ChangeSpec := { name := "drawFamily", fn := fun _ => fun
  | [d1, d2, d3] => { results := [.lit (.bool false)], args := [d1, d2, d3] }
  | _ => none }
def DrawFamilyWrongFalsely : Prop := drawFamilyRow.holds Try.pinned (OpenSpec.ofChange drawFamilyWrong)

/-- 'turnstilelaw05.DrawEven': WHATEVER THE INPUT: true; the input reads as it did. -/
def drawEvenSpec : ChangeSpec := { name := "drawEven", fn := fun _ => fun
  | [d1, d2, d3] => { results := [.lit (.bool true)], args := [d1, d2, d3] }
  | _ => none }
def drawEvenRow : OpenClaim := { program := "ytafckmfahfkcpaa", sum := "944816a038448f5434e889299b2c3e904a0e2e08b64c184df6c308b6f3229a5b", func := "turnstile/turnstilelaw05.DrawEven", spec := "drawEven", apart := false }
def DrawEvenSaid : Prop := drawEvenRow.holds Try.pinned (OpenSpec.ofChange drawEvenSpec)

/-- ITS FALSE NEIGHBOUR: 'it returns false'. Refute it at one input. -/
def drawEvenWrong : ChangeSpec := { name := "drawEven", fn := fun _ => fun
  | [d1, d2, d3] => { results := [.lit (.bool false)], args := [d1, d2, d3] }
  | _ => none }
def DrawEvenWrongFalsely : Prop := drawEvenRow.holds Try.pinned (OpenSpec.ofChange drawEvenWrong)

/-- 'turnstilelaw05.DrawTurns': WHATEVER THE INPUT: true; the input reads as it did. -/
def drawTurnsSpec : ChangeSpec := { name := "drawTurns", fn := fun _ => fun
  | [d1, d2] => { results := [.lit (.bool true)], args := [d1, d2] }
  | _ => none }
def drawTurnsRow : OpenClaim := { program := "ytafckmfahfkcpaa", sum := "944816a038448f5434e889299b2c3e904a0e2e08b64c184df6c308b6f3229a5b", func := "turnstile/turnstilelaw05.DrawTurns", spec := "drawTurns", apart := false }
def DrawTurnsSaid : Prop := drawTurnsRow.holds Try.pinned (OpenSpec.ofChange drawTurnsSpec)

/-- ITS FALSE NEIGHBOUR: 'it returns false'. Refute it at one input. -/
def drawTurnsWrong : ChangeSpec := { name := "drawTurns", fn := fun _ => fun
  | [d1, d2] => { results := [.lit (.bool false)], args := [d1, d2] }
  | _ => none }
def DrawTurnsWrongFalsely : Prop := drawTurnsRow.holds Try.pinned (OpenSpec.ofChange drawTurnsWrong)

/-- 'turnstilelaw05.DrawShares': WHATEVER THE INPUT: true; the input reads as it did. -/
def drawSharesSpec : ChangeSpec := { name := "drawShares", fn := fun _ => fun
  | [d1, d2] => { results := [.lit (.bool true)], args := [d1, d2] }
  | _ => none }
def drawSharesRow : OpenClaim := { program := "ytafckmfahfkcpaa", sum := "944816a038448f5434e889299b2c3e904a0e2e08b64c184df6c308b6f3229a5b", func := "turnstile/turnstilelaw05.DrawShares", spec := "drawShares", apart := false }
def DrawSharesSaid : Prop := drawSharesRow.holds Try.pinned (OpenSpec.ofChange drawSharesSpec)

/-- ITS FALSE NEIGHBOUR: 'it returns false'. Refute it at one input. -/
def drawSharesWrong : ChangeSpec := { name := "drawShares", fn := fun _ => fun
  | [d1, d2] => { results := [.lit (.bool false)], args := [d1, d2] }
  | _ => none }
def DrawSharesWrongFalsely : Prop := drawSharesRow.holds Try.pinned (OpenSpec.ofChange drawSharesWrong)

/- THE SECOND FORM. 'bulk': how many values and letters a reading holds, each counted each time it is reached (what is shared counts as often as it is met; a slice's spare places count too). A statement '..UptoSaid' is the law's where the arguments, and the package variables that the reading takes, are together of bulk at most 1048576: NARROWER than '..Said'. Prove '..Said' where nothing that the law and all that it calls make is longer than what came in: it says more and counts as full. Else prove '..UptoSaid'. A law counts once. -/
mutual
def uptoBulk {H : Type} : DataW H → Nat
  | .lit (.string bytes) => bytes.length + 1
  | .lit _ => 1
  | .nil => 1
  | .ptr d => uptoBulk d + 1
  | .slice elems spare => uptoBulkAll elems + uptoBulkAll spare + 1
  | .agg parts => uptoBulkAll parts + 1
  | .iface _ d => uptoBulk d + 1
  | .map entries => uptoBulkEntries entries + 1
  | .held _ => 1
def uptoBulkAll {H : Type} : List (DataW H) → Nat
  | [] => 0
  | d :: r => uptoBulk d + uptoBulkAll r
def uptoBulkEntries {H : Type} : List (Lit × DataW H) → Nat
  | [] => 0
  | x :: r => uptoBulkEntry x + uptoBulkEntries r
def uptoBulkEntry {H : Type} : Lit × DataW H → Nat
  | (.string bytes, d) => bytes.length + uptoBulk d + 1
  | (_, d) => uptoBulk d + 1
 end
def uptoSmall : (H : Type) → List (DataW H) → Bool := fun _ ds => decide (uptoBulkAll ds ≤ 1048576)
def OpenSpec.upto (s : _root_.Go.ChangeSpec) : _root_.Go.OpenSpec := { _root_.Go.OpenSpec.ofChange s with cond := some uptoSmall }

/-- 'turnstilelaw05.DrawTells', WHERE WHAT IT READS IS OF BULK AT MOST 1048576: true; the input reads as it did. -/
def drawTellsUptoRow : OpenClaim := { program := "ytafckmfahfkcpaa", sum := "944816a038448f5434e889299b2c3e904a0e2e08b64c184df6c308b6f3229a5b", func := "turnstile/turnstilelaw05.DrawTells", spec := "drawTells", apart := false, narrowed := true }
def DrawTellsUptoSaid : Prop := drawTellsUptoRow.holds Try.pinned (OpenSpec.upto drawTellsSpec)

/-- 'turnstilelaw05.DrawHides', WHERE WHAT IT READS IS OF BULK AT MOST 1048576: true; the input reads as it did. -/
def drawHidesUptoRow : OpenClaim := { program := "ytafckmfahfkcpaa", sum := "944816a038448f5434e889299b2c3e904a0e2e08b64c184df6c308b6f3229a5b", func := "turnstile/turnstilelaw05.DrawHides", spec := "drawHides", apart := false, narrowed := true }
def DrawHidesUptoSaid : Prop := drawHidesUptoRow.holds Try.pinned (OpenSpec.upto drawHidesSpec)

/-- 'turnstilelaw05.DrawFamily', WHERE WHAT IT READS IS OF BULK AT MOST 1048576: true; the input reads as it did. -/
def drawFamilyUptoRow : OpenClaim := { program := "ytafckmfahfkcpaa", sum := "944816a038448f5434e889299b2c3e904a0e2e08b64c184df6c308b6f3229a5b", func := "turnstile/turnstilelaw05.DrawFamily", spec := "drawFamily", apart := false, narrowed := true }
def DrawFamilyUptoSaid : Prop := drawFamilyUptoRow.holds Try.pinned (OpenSpec.upto drawFamilySpec)

/-- 'turnstilelaw05.DrawEven', WHERE WHAT IT READS IS OF BULK AT MOST 1048576: true; the input reads as it did. -/
def drawEvenUptoRow : OpenClaim := { program := "ytafckmfahfkcpaa", sum := "944816a038448f5434e889299b2c3e904a0e2e08b64c184df6c308b6f3229a5b", func := "turnstile/turnstilelaw05.DrawEven", spec := "drawEven", apart := false, narrowed := true }
def DrawEvenUptoSaid : Prop := drawEvenUptoRow.holds Try.pinned (OpenSpec.upto drawEvenSpec)

/-- 'turnstilelaw05.DrawTurns', WHERE WHAT IT READS IS OF BULK AT MOST 1048576: true; the input reads as it did. -/
def drawTurnsUptoRow : OpenClaim := { program := "ytafckmfahfkcpaa", sum := "944816a038448f5434e889299b2c3e904a0e2e08b64c184df6c308b6f3229a5b", func := "turnstile/turnstilelaw05.DrawTurns", spec := "drawTurns", apart := false, narrowed := true }
def DrawTurnsUptoSaid : Prop := drawTurnsUptoRow.holds Try.pinned (OpenSpec.upto drawTurnsSpec)

/-- 'turnstilelaw05.DrawShares', WHERE WHAT IT READS IS OF BULK AT MOST 1048576: true; the input reads as it did. -/
def drawSharesUptoRow : OpenClaim := { program := "ytafckmfahfkcpaa", sum := "944816a038448f5434e889299b2c3e904a0e2e08b64c184df6c308b6f3229a5b", func := "turnstile/turnstilelaw05.DrawShares", spec := "drawShares", apart := false, narrowed := true }
def DrawSharesUptoSaid : Prop := drawSharesUptoRow.holds Try.pinned (OpenSpec.upto drawSharesSpec)

end Rows
end Go.Proofs.Ytafckmfahfkcpaa
