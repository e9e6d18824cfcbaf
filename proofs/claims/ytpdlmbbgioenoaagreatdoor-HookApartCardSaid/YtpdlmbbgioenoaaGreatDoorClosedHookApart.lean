/- HookApart: the row's closed facts: what its cells say is what the program's text forces. No conditions. -/
import Derived.Test.YtpdlmbbgioenoaaGreatDoorRows
import Derived.SevenTiedAt
import Derived.Stop.Joined
namespace Go.Proofs.YtpdlmbbgioenoaaGreatDoor.hookApartClosed
open Go.ChangeShapes Go.WideShapes
set_option linter.unusedSimpArgs false
set_option linter.unusedVariables false
theorem closed : joinedFacts Tryz.pinned.checked.prog 9 Tryz.f9 Rows.hookApartSpec Rows.hookApartRow = true := by kernel_rfl
end Go.Proofs.YtpdlmbbgioenoaaGreatDoor.hookApartClosed
