/- The walks of the document's answer for coins, part two: what is read. Written by program (walk.py) out of a table of contracts and invariants. -/
import Derived.Test.YtamlleachfngeaaGreatRn
import Derived.Test.YtamlleachfngeaaGreatJu
namespace Go.Proofs.YtamlleachfngeaaGreat
open Go.RowKit
set_option maxRecDepth 100000
set_option maxHeartbeats 4000000
set_option linter.unusedVariables false
set_option linter.unusedSimpArgs false
theorem kind4 (k : Int) : k = 1 ∨ k = 2 ∨ k = 3 ∨ (k ≠ 1 ∧ k ≠ 2 ∧ k ≠ 3) := by omega

end Go.Proofs.YtamlleachfngeaaGreat