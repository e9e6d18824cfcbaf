/- A part of the proof; each theorem states its conditions. -/
import Derived.Test.YtglilddlhibogaaGreatDoorZZ2
import Derived.Test.YtglilddlhibogaaGreatDoorRows
import Derived.SevenTiedAt
set_option linter.unusedSimpArgs false
set_option linter.unusedVariables false
set_option maxRecDepth 100000
set_option maxHeartbeats 100000000
namespace Go.Proofs.YtglilddlhibogaaGreatDoor.hookPlaysClosed
open Go.ChangeShapes Go.WideShapes
theorem closed:joinedFacts Tryz.pinned.checked.prog 3 Tryz.f3 Rows.hookPlaysSpec Rows.hookPlaysRow=true:=dF
end Go.Proofs.YtglilddlhibogaaGreatDoor.hookPlaysClosed
