/- A part of the proof; each theorem states its conditions. -/
import Derived.Test.YtpdlmbbgioenoaaGreatDoorRows
import Derived.SevenTiedAt
import Derived.Stop.Joined
set_option linter.unusedSimpArgs false
set_option linter.unusedVariables false
namespace Go.Proofs.YtpdlmbbgioenoaaGreatDoor.hookFairClosed
open Go.ChangeShapes Go.WideShapes
theorem closed : joinedFacts Tryz.pinned.checked.prog 8 Tryz.f8 Rows.hookFairSpec Rows.hookFairRow = true := by kernel_rfl
end Go.Proofs.YtpdlmbbgioenoaaGreatDoor.hookFairClosed
