/- The walk of the reference's call: its errors. Conditions: the box lies in a block of 109 cells. -/
import Derived.Test.YtfpoicdfkjbknaaDoorR3
namespace Go.Proofs.YtfpoicdfkjbknaaDoor.W
open Go.RowKit Go.Proofs.YtfpoicdfkjbknaaDoor.P
set_option linter.unusedSimpArgs false
set_option linter.unusedVariables false

set_option maxRecDepth 100000 in
set_option maxHeartbeats 1000000 in
theorem RefCall_err (b : Nat) (told : Nat → Int) (time num st : Int) (out : Value) (M : Mach) (w : World) (hI : Img w b 109 (bimg told time num st out M)) (n : Int) (hn : n ≠ 2) (hx : VOk (M.regs 1)) (hk : (M.regs 1).kind ≠ 1) :
    Calls Tryd.prog 41 #[.pointer (some ⟨b, 0, none⟩), .int .i64 n] w fun e w' => e = .returned (.int .i64 (if (M.regs 1).kind = 0 then 8 else 1)) ∧ Below w.heap.size w w' := by
  have HW0 := Lib.hid (Below.refl w.heap.size w)
  have c0 := (hI.cell 3 (by omega)).trans (congrArg some ((bimg_at (r := 1) (by omega) (by omega : 0 < 3) (by omega)).trans (rcell_0 _)))
  have c1 := (hI.cell 4 (by omega)).trans (congrArg some ((bimg_at (r := 1) (by omega) (by omega : 1 < 3) (by omega)).trans (rcell_1 _)))
  have c2 := (hI.cell 5 (by omega)).trans (congrArg some ((bimg_at (r := 1) (by omega) (by omega : 2 < 3) (by omega)).trans (rcell_2 _)))
  rw [at_reg (by omega : 1 < 11)] at c0 c1 c2
  have k0 := kl_0 hx.1
  have k1 := kl_110 hx.1
  have HI := Lib.hid hI
  clear hI
  have n2 : (n != 2) = true := by rw [bne_iff_ne]; exact hn
  have q2 : (kl (M.regs 1).kind == 110) = false := by rw [k1, beq_eq_false_iff_ne]; exact hk
  have q2' : (kl (M.regs 1).kind != 110) = true := by rw [bne_iff_ne]; exact beq_eq_false_iff_ne.1 q2
  clear hn hk k1 hx
  by_cases h : (M.regs 1).kind = 0
  · rw [if_pos h]
    have q1 : (kl (M.regs 1).kind == 0) = true := by rw [k0, beq_iff_eq]; exact h
    clear h k0
    generalize kl (M.regs 1).kind = kk at *
    go_enter Tryd.func41, Tryd.ntmps41
    go_wp2_with fail
    go_ret
    exact ⟨rfl, (by repeat' (first | with_reducible exact HW0.out | with_reducible exact Below.refl _ _ | with_reducible refine Below.drew ?_ | with_reducible refine Below.drewN' ?_ _ | with_reducible refine Below.alloc ?_ ?_ _ | with_reducible refine Below.setCell ?_ ?_ _ | (simp; done) | (simp; omega) | omega))⟩
  · rw [if_neg h]
    have q1 : (kl (M.regs 1).kind == 0) = false := by rw [k0, beq_eq_false_iff_ne]; exact h
    clear h k0
    generalize kl (M.regs 1).kind = kk at *
    go_enter Tryd.func41, Tryd.ntmps41
    go_wp2_with fail
    go_ret
    exact ⟨rfl, (by repeat' (first | with_reducible exact HW0.out | with_reducible exact Below.refl _ _ | with_reducible refine Below.drew ?_ | with_reducible refine Below.drewN' ?_ _ | with_reducible refine Below.alloc ?_ ?_ _ | with_reducible refine Below.setCell ?_ ?_ _ | (simp; done) | (simp; omega) | omega))⟩
end Go.Proofs.YtfpoicdfkjbknaaDoor.W
