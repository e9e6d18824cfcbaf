/- The walk of machine.second: what a step asks beside its register. Conditions: the machine lies in a block of 108 cells. -/
import Derived.Test.YtfpoicdfkjbknaaDoorWalkBound
import Derived.Test.YtfpoicdfkjbknaaDoorMachImg
import Derived.BigRegion
import Derived.Outline
namespace Go.Proofs.YtfpoicdfkjbknaaDoor.W
open Go.RowKit Go.Proofs.YtfpoicdfkjbknaaDoor.P
set_option linter.unusedSimpArgs false
set_option linter.unusedVariables false

set_option maxRecDepth 100000 in
set_option maxHeartbeats 400000 in
theorem Second_reg (b : Nat) (code : Value) (told : Nat → Int) (time : Int) (out : Value) (M : Mach) (w : World) (hI : Img w b 108 (mimg code told time out M)) (c d : Int) (k : Nat) (hk : k < 11) (o n : Int) :
    Calls Tryd.prog 22 #[.pointer (some ⟨b, 0, none⟩), .agg #[.int .i64 c, .int .i64 d, .int .i64 k, .bool true, .int .i64 o, .int .i64 n]] w fun e w' =>
      e = .returned (.agg #[.int .i64 (M.regs k).kind, .int .i64 (M.regs k).n, .int .i64 (M.regs k).cell]) ∧ Below w.heap.size w w' := by
  have HW0 := Lib.hid (Below.refl w.heap.size w)
  have hlt := hI.lt (by omega)
  have i0 : (0 : Int) ≤ (k : Int) := by omega
  have i1 : (k : Int) < 11 := by omega
  have c0 := (hI.cell (1 + k * 3) (by omega)).trans (congrArg some (mimg_reg hk (by omega : 0 < 3) (by omega)))
  have c1 := (hI.cell (1 + k * 3 + 1) (by omega)).trans (congrArg some (mimg_reg hk (by omega : 1 < 3) (by omega)))
  have c2 := (hI.cell (1 + k * 3 + 2) (by omega)).trans (congrArg some (mimg_reg hk (by omega : 2 < 3) (by omega)))
  rw [vcell_0] at c0; rw [vcell_1] at c1; rw [vcell_2] at c2
  have HI := Lib.hid hI
  clear hI
  go_enter Tryd.func22, Tryd.ntmps22
  go_wp2_with fail
  go_region
  all_goals
    go_wp2_with fail
    refine bodyPost_ret ?_ rfl ⟨rfl, (by repeat' (first | with_reducible exact HW0.out | with_reducible exact Below.refl _ _ | with_reducible refine Below.drew ?_ | with_reducible refine Below.drewN' ?_ _ | with_reducible refine Below.alloc ?_ ?_ _ | with_reducible refine Below.setCell ?_ ?_ _ | (simp; done) | (simp; omega) | omega))⟩
    simp [results, Tryd.results22, go_sem]
set_option maxRecDepth 100000 in
set_option maxHeartbeats 400000 in
theorem Second_num (p : Value) (w : World) (c d k o n : Int) :
    Calls Tryd.prog 22 #[p, .agg #[.int .i64 c, .int .i64 d, .int .i64 k, .bool false, .int .i64 o, .int .i64 n]] w fun e w' =>
      e = .returned (.agg #[.int .i64 1, .int .i64 n, .int .i64 0]) ∧ Below w.heap.size w w' := by
  have HW0 := Lib.hid (Below.refl w.heap.size w)
  go_enter Tryd.func22, Tryd.ntmps22
  go_wp2_with fail
  refine bodyPost_ret ?_ rfl ⟨rfl, (by repeat' (first | with_reducible exact HW0.out | with_reducible exact Below.refl _ _ | with_reducible refine Below.drew ?_ | with_reducible refine Below.drewN' ?_ _ | with_reducible refine Below.alloc ?_ ?_ _ | with_reducible refine Below.setCell ?_ ?_ _ | (simp; done) | (simp; omega) | omega))⟩
  simp [results, Tryd.results22, go_sem]
end Go.Proofs.YtfpoicdfkjbknaaDoor.W
