/- AsmReads: the row's closed facts: what its cells say is what the program's text forces. No conditions. -/
import Derived.Test.YtglilddlhibogaaGreatDoorRows
import Derived.SevenTiedAt
import Derived.Stop.Joined
namespace Go.Proofs.YtglilddlhibogaaGreatDoor.asmReadsClosed
open Go.ChangeShapes Go.WideShapes
set_option linter.unusedSimpArgs false
set_option linter.unusedVariables false
theorem closed : joinedFacts Tryz.pinned.checked.prog 4 Tryz.f4 Rows.asmReadsSpec Rows.asmReadsRow = true := by kernel_rfl
end Go.Proofs.YtglilddlhibogaaGreatDoor.asmReadsClosed
