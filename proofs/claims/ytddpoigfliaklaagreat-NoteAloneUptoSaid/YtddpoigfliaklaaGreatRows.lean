/-
  No cell of these rows narrows 'for every input' (looked for: loops, veiled, ifaces, maps, wideKeys, modest, calm, conditions, laid).
  DERIVED. THE GIVEN ROWS OF THIS SEAT. 6 by the template 'for every input the law returns true; each argument reads behind the call as it read before'; 0 by the template 'total and deterministic' (their statements: YtddpoigfliaklaaGreatTotals.lean).
  GIVEN WITH THE SEED: the statements are not yours to turn. If you find one false, say at which input.
  Laid BY PROGRAM, IN A SANDBOX (cutbox-rows.mjs): the forced cells as the released guide's own fill.sh prints them over the translation 57c424cd8a3b8c43… (all of the seat's roots in one cut). By AI agents, Wed Nov 11 2026. No macro, syntax, notation, axiom, sorry.
-/
import Derived.Test.YtddpoigfliaklaaGreatChecked
import GoSem.Claim
import GoSem.ClaimJoined
import GoSem.ClaimMapViews
import Derived.JoinedTies
import Derived.KernelRfl
namespace Go.Proofs.YtddpoigfliaklaaGreat
/- THE CELL 'sum', in the pinned program and in every row, IS THE sha256 OF THE DUMP (.gsa) THAT YtddpoigfliaklaaGreatProg.lean LOADS. Nothing in Lean hashes anything: it is a label: what it is worth is what the hold of that sum in a sandbox is worth. -/
noncomputable def Tryz.pinned : Pinned := { name := "ytddpoigfliaklaagreat", sum := "57c424cd8a3b8c43dee988d6187184e233a445eca83d69bc94b242ce1bebaf78", checked := Tryz.checked }
namespace Rows
def none {H : Type} : Left H := { results := [], args := [] }

/-- 'turnstilelaw08.NoteTexts': WHATEVER THE INPUT: true; the input reads as it did. -/
def noteTextsSpec : ChangeSpec := { name := "noteTexts", fn := fun _ => fun
  | [d1, d2, d3] => { results := [.lit (.bool true)], args := [d1, d2, d3] }
  | _ => none }
def noteTextsRow : OpenClaim := { program := "ytddpoigfliaklaagreat", sum := "57c424cd8a3b8c43dee988d6187184e233a445eca83d69bc94b242ce1bebaf78", func := "turnstile/turnstilelaw08.NoteTexts", spec := "noteTexts", unfollowed := true, recurses := true, apart := false }
def NoteTextsSaid : Prop := noteTextsRow.holds Tryz.pinned (OpenSpec.ofChange noteTextsSpec)

/-- ITS FALSE NEIGHBOUR: 'it returns false'. Refute it at one input. -/
def noteTextsWrong : ChangeSpec := { name := "noteTexts", fn := fun _ => fun
  | [d1, d2, d3] => { results := [.lit (.bool false)], args := [d1, d2, d3] }
  | _ => none }
def NoteTextsWrongFalsely : Prop := noteTextsRow.holds Tryz.pinned (OpenSpec.ofChange noteTextsWrong)

/-- 'turnstilelaw08.NoteBytes': WHATEVER THE INPUT: true; the input reads as it did. -/
def noteBytesSpec : ChangeSpec := { name := "noteBytes", fn := fun _ => fun
  | [d1, d2, d3] => { results := [.lit (.bool true)], args := [d1, d2, d3] }
  | _ => none }
def noteBytesRow : OpenClaim := { program := "ytddpoigfliaklaagreat", sum := "57c424cd8a3b8c43dee988d6187184e233a445eca83d69bc94b242ce1bebaf78", func := "turnstile/turnstilelaw08.NoteBytes", spec := "noteBytes", unfollowed := true, recurses := true, apart := false }
def NoteBytesSaid : Prop := noteBytesRow.holds Tryz.pinned (OpenSpec.ofChange noteBytesSpec)

/-- ITS FALSE NEIGHBOUR: 'it returns false'. Refute it at one input. -/
def noteBytesWrong : ChangeSpec := { name := "noteBytes", fn := fun _ => fun
  | [d1, d2, d3] => { results := [.lit (.bool false)], args := [d1, d2, d3] }
  | _ => none }
def NoteBytesWrongFalsely : Prop := noteBytesRow.holds Tryz.pinned (OpenSpec.ofChange noteBytesWrong)

/-- 'turnstilelaw08.NoteBack': WHATEVER THE INPUT: true; the input reads as it did. -/
def noteBackSpec : ChangeSpec := { name := "noteBack", fn := fun _ => fun
  | [d1, d2] => { results := [.lit (.bool true)], args := [d1, d2] }
  | _ => none }
def noteBackRow : OpenClaim := { program := "ytddpoigfliaklaagreat", sum := "57c424cd8a3b8c43dee988d6187184e233a445eca83d69bc94b242ce1bebaf78", func := "turnstile/turnstilelaw08.NoteBack", spec := "noteBack", unfollowed := true, recurses := true, apart := false }
def NoteBackSaid : Prop := noteBackRow.holds Tryz.pinned (OpenSpec.ofChange noteBackSpec)

/-- ITS FALSE NEIGHBOUR: 'it returns false'. Refute it at one input. -/
def noteBackWrong : ChangeSpec := { name := "noteBack", fn := fun _ => fun
  | [d1, d2] => { results := [.lit (.bool false)], args := [d1, d2] }
  | _ => none }
def NoteBackWrongFalsely : Prop := noteBackRow.holds Tryz.pinned (OpenSpec.ofChange noteBackWrong)

/-- 'turnstilelaw08.NoteSums': WHATEVER THE INPUT: true; the input reads as it did. -/
def noteSumsSpec : ChangeSpec := { name := "noteSums", fn := fun _ => fun
  | [d1, d2] => { results := [.lit (.bool true)], args := [d1, d2] }
  | _ => none }
def noteSumsRow : OpenClaim := { program := "ytddpoigfliaklaagreat", sum := "57c424cd8a3b8c43dee988d6187184e233a445eca83d69bc94b242ce1bebaf78", func := "turnstile/turnstilelaw08.NoteSums", spec := "noteSums", unfollowed := true, recurses := true, apart := false }
def NoteSumsSaid : Prop := noteSumsRow.holds Tryz.pinned (OpenSpec.ofChange noteSumsSpec)

/-- ITS FALSE NEIGHBOUR: 'it returns false'. Refute it at one input. -/
def noteSumsWrong : ChangeSpec := { name := "noteSums", fn := fun _ => fun
  | [d1, d2] => { results := [.lit (.bool false)], args := [d1, d2] }
  | _ => none }
def NoteSumsWrongFalsely : Prop := noteSumsRow.holds Tryz.pinned (OpenSpec.ofChange noteSumsWrong)

/-- 'turnstilelaw08.NoteAlone': WHATEVER THE INPUT: true; the input reads as it did. -/
def noteAloneSpec : ChangeSpec := { name := "noteAlone", fn := fun _ => fun
  | [d1, d2, d3] => { results := [.lit (.bool true)], args := [d1, d2, d3] }
  | _ => none }
def noteAloneRow : OpenClaim := { program := "ytddpoigfliaklaagreat", sum := "57c424cd8a3b8c43dee988d6187184e233a445eca83d69bc94b242ce1bebaf78", func := "turnstile/turnstilelaw08.NoteAlone", spec := "noteAlone", unfollowed := true, recurses := true, apart := false }
def NoteAloneSaid : Prop := noteAloneRow.holds Tryz.pinned (OpenSpec.ofChange noteAloneSpec)

/-- ITS FALSE NEIGHBOUR: 'it returns false'. Refute it at one input. -/
def noteAloneWrong : ChangeSpec := { name := "noteAlone", fn := fun _ => fun
  | [d1, d2, d3] => { results := [.lit (.bool false)], args := [d1, d2, d3] }
  | _ => none }
def NoteAloneWrongFalsely : Prop := noteAloneRow.holds Tryz.pinned (OpenSpec.ofChange noteAloneWrong)

/-- 'turnstilelaw08.NoteDrops': WHATEVER THE INPUT: true; the input reads as it did. -/
def noteDropsSpec : ChangeSpec := { name := "noteDrops", fn := fun _ => fun
  | [d1, d2] => { results := [.lit (.bool true)], args := [d1, d2] }
  | _ => none }
def noteDropsRow : OpenClaim := { program := "ytddpoigfliaklaagreat", sum := "57c424cd8a3b8c43dee988d6187184e233a445eca83d69bc94b242ce1bebaf78", func := "turnstile/turnstilelaw08.NoteDrops", spec := "noteDrops", unfollowed := true, recurses := true, apart := false }
def NoteDropsSaid : Prop := noteDropsRow.holds Tryz.pinned (OpenSpec.ofChange noteDropsSpec)

/-- ITS FALSE NEIGHBOUR: 'it returns false'. Refute it at one input. -/
def noteDropsWrong : ChangeSpec := { name := "noteDrops", fn := fun _ => fun
  | [d1, d2] => { results := [.lit (.bool false)], args := [d1, d2] }
  | _ => none }
def NoteDropsWrongFalsely : Prop := noteDropsRow.holds Tryz.pinned (OpenSpec.ofChange noteDropsWrong)

/- THE SECOND FORM. 'bulk': how many values and letters a reading holds, each counted each time it is reached (what is shared counts as often as it is met; a slice's spare places count too). A statement '..UptoSaid' is the law's where the arguments, and the package variables that the reading takes, are together of bulk at most 1048576: NARROWER than '..Said'. Prove '..Said' where nothing that the law and all that it calls make is longer than what came in: it says more and counts as full. Else prove '..UptoSaid'. A law counts once. -/
mutual
def uptoBulk {H : Type} : DataW H → Nat
  | .lit (.string bytes) => bytes.length + 1
  | .lit _ => 1
  | .nil => 1
  | .ptr d => uptoBulk d + 1
  | .slice elems spare => uptoBulkAll elems + uptoBulkAll spare + 1
  | .agg parts => uptoBulkAll parts + 1
  | .iface _ d => uptoBulk d + 1
  | .map entries => uptoBulkEntries entries + 1
  | .held _ => 1
def uptoBulkAll {H : Type} : List (DataW H) → Nat
  | [] => 0
  | d :: r => uptoBulk d + uptoBulkAll r
def uptoBulkEntries {H : Type} : List (Lit × DataW H) → Nat
  | [] => 0
  | x :: r => uptoBulkEntry x + uptoBulkEntries r
def uptoBulkEntry {H : Type} : Lit × DataW H → Nat
  | (.string bytes, d) => bytes.length + uptoBulk d + 1
  | (_, d) => uptoBulk d + 1
 end
def uptoSmall : (H : Type) → List (DataW H) → Bool := fun _ ds => decide (uptoBulkAll ds ≤ 1048576)
def OpenSpec.upto (s : _root_.Go.ChangeSpec) : _root_.Go.OpenSpec := { _root_.Go.OpenSpec.ofChange s with cond := some uptoSmall }

/-- 'turnstilelaw08.NoteTexts', WHERE WHAT IT READS IS OF BULK AT MOST 1048576: true; the input reads as it did. -/
def noteTextsUptoRow : OpenClaim := { program := "ytddpoigfliaklaagreat", sum := "57c424cd8a3b8c43dee988d6187184e233a445eca83d69bc94b242ce1bebaf78", func := "turnstile/turnstilelaw08.NoteTexts", spec := "noteTexts", unfollowed := true, recurses := true, apart := false, narrowed := true }
def NoteTextsUptoSaid : Prop := noteTextsUptoRow.holds Tryz.pinned (OpenSpec.upto noteTextsSpec)

/-- 'turnstilelaw08.NoteBytes', WHERE WHAT IT READS IS OF BULK AT MOST 1048576: true; the input reads as it did. -/
def noteBytesUptoRow : OpenClaim := { program := "ytddpoigfliaklaagreat", sum := "57c424cd8a3b8c43dee988d6187184e233a445eca83d69bc94b242ce1bebaf78", func := "turnstile/turnstilelaw08.NoteBytes", spec := "noteBytes", unfollowed := true, recurses := true, apart := false, narrowed := true }
def NoteBytesUptoSaid : Prop := noteBytesUptoRow.holds Tryz.pinned (OpenSpec.upto noteBytesSpec)

/-- 'turnstilelaw08.NoteBack', WHERE WHAT IT READS IS OF BULK AT MOST 1048576: true; the input reads as it did. -/
def noteBackUptoRow : OpenClaim := { program := "ytddpoigfliaklaagreat", sum := "57c424cd8a3b8c43dee988d6187184e233a445eca83d69bc94b242ce1bebaf78", func := "turnstile/turnstilelaw08.NoteBack", spec := "noteBack", unfollowed := true, recurses := true, apart := false, narrowed := true }
def NoteBackUptoSaid : Prop := noteBackUptoRow.holds Tryz.pinned (OpenSpec.upto noteBackSpec)

/-- 'turnstilelaw08.NoteSums', WHERE WHAT IT READS IS OF BULK AT MOST 1048576: true; the input reads as it did. -/
def noteSumsUptoRow : OpenClaim := { program := "ytddpoigfliaklaagreat", sum := "57c424cd8a3b8c43dee988d6187184e233a445eca83d69bc94b242ce1bebaf78", func := "turnstile/turnstilelaw08.NoteSums", spec := "noteSums", unfollowed := true, recurses := true, apart := false, narrowed := true }
def NoteSumsUptoSaid : Prop := noteSumsUptoRow.holds Tryz.pinned (OpenSpec.upto noteSumsSpec)

/-- 'turnstilelaw08.NoteAlone', WHERE WHAT IT READS IS OF BULK AT MOST 1048576: true; the input reads as it did. -/
def noteAloneUptoRow : OpenClaim := { program := "ytddpoigfliaklaagreat", sum := "57c424cd8a3b8c43dee988d6187184e233a445eca83d69bc94b242ce1bebaf78", func := "turnstile/turnstilelaw08.NoteAlone", spec := "noteAlone", unfollowed := true, recurses := true, apart := false, narrowed := true }
def NoteAloneUptoSaid : Prop := noteAloneUptoRow.holds Tryz.pinned (OpenSpec.upto noteAloneSpec)

/-- 'turnstilelaw08.NoteDrops', WHERE WHAT IT READS IS OF BULK AT MOST 1048576: true; the input reads as it did. -/
def noteDropsUptoRow : OpenClaim := { program := "ytddpoigfliaklaagreat", sum := "57c424cd8a3b8c43dee988d6187184e233a445eca83d69bc94b242ce1bebaf78", func := "turnstile/turnstilelaw08.NoteDrops", spec := "noteDrops", unfollowed := true, recurses := true, apart := false, narrowed := true }
def NoteDropsUptoSaid : Prop := noteDropsUptoRow.holds Tryz.pinned (OpenSpec.upto noteDropsSpec)

end Rows
end Go.Proofs.YtddpoigfliaklaaGreat
