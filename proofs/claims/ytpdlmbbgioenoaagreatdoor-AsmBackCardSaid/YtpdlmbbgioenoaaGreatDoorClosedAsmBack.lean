/- AsmBack: the row's closed facts: what its cells say is what the program's text forces. No conditions. -/
import Derived.Test.YtpdlmbbgioenoaaGreatDoorRows
import Derived.SevenTiedAt
import Derived.Stop.Joined
namespace Go.Proofs.YtpdlmbbgioenoaaGreatDoor.asmBackClosed
open Go.ChangeShapes Go.WideShapes
set_option linter.unusedSimpArgs false
set_option linter.unusedVariables false
theorem closed : joinedFacts Tryz.pinned.checked.prog 5 Tryz.f5 Rows.asmBackSpec Rows.asmBackRow = true := by kernel_rfl
end Go.Proofs.YtpdlmbbgioenoaaGreatDoor.asmBackClosed
