/- A part of the proof; each theorem states its conditions. -/
import Derived.Test.YtpdlmbbgioenoaaGreatDoorTell
import Derived.Test.YtpdlmbbgioenoaaGreatDoorWalkBound
set_option linter.unusedSimpArgs false
set_option linter.unusedVariables false
namespace Go.Proofs.YtpdlmbbgioenoaaGreatDoor.W
open Go.RowKit Go.Extern.Stop Go.Stop Go.Extern
set_option maxRecDepth 100000 in
set_option maxHeartbeats 4000000 in
theorem Tell_errno (n : Int) (w : World) (hg : w.cell? ⟨4, 0, none⟩ = some (.iface 298 (.agg #[.pointer (some ⟨14, 26, none⟩)]))) :
  Calls Tryz.prog 29 #[.iface 30 (.int .i64 n)] w fun e w' => e = .returned (.int .i64 n) ∧ Below w.heap.size w w' := by
 have HW0 := Lib.hid (Below.refl w.heap.size w)
 have hlt := block_lt_of_cell hg
 go_enter Tryz.func29, Tryz.ntmps29
 go_wp2_with fail
 refine (as_errno n ⟨w.heap.size, 0, none⟩ (.int .i64 0) (w.alloc (.cells #[.int .i64 0] 30)) (by rw [World.cell?_alloc_lt _ _ ⟨4, 0, none⟩ hlt]; exact hg) (by simp) (by simp)).mono ?_
 rintro e w' ⟨rfl, rfl⟩
 go_wp2_with fail
 go_ret
 exact ⟨rfl, (by repeat' (first | with_reducible (first | exact HW0.out | apply bR | apply bD | apply bN | apply bA | apply bS) | (simp; done) | (simp; omega) | omega))⟩
end Go.Proofs.YtpdlmbbgioenoaaGreatDoor.W
