/- A segment's words: strings.FieldsFunc with asm.Read's own function. Conditions: the text is short. -/
import Derived.Test.YtglilddlhibogaaGreatDoorReadShelf
import Derived.Test.YtglilddlhibogaaGreatDoorPureRead
import Derived.Test.YtglilddlhibogaaGreatDoorWalkOp
namespace Go.Proofs.YtglilddlhibogaaGreatDoor.W
open Go.RowKit Go.Proofs.YtglilddlhibogaaGreatDoor.P
set_option linter.unusedSimpArgs false
set_option linter.unusedVariables false

theorem NBlank_any (x : Nat) (W : World) : Calls Tryz.prog 38 #[.int .i32 x] W fun e w' => e = .returned (.bool (x == 32)) ∧ Below W.heap.size W w' := by
 by_cases h : x = 32
 ·subst h
  go_enter Tryz.func38, Tryz.ntmps38
  go_wp2_with fail
  go_ret
  exact ⟨rfl, Below.refl _ _⟩
 ·have h1 : ((x : Int) == 32) = false := by rw [beq_eq_false_iff_ne]; omega
  have h2 : (x == 32) = false := by rw [beq_eq_false_iff_ne]; exact h
  rw [h2]
  go_enter Tryz.func38, Tryz.ntmps38
  go_wp2_with fail
  go_ret
  exact ⟨by first | rfl | simp [h1, h], Below.refl _ _⟩
/-- the words of a segment, as the library cuts them -/
def fieldsB (s : List UInt8) : List ByteArray := Lib.goFieldsP (fun x => x == 32) (bs s)
theorem NFields_any (s : List UInt8) (hs : s.length ≤ 100000) (w : World) : Calls Tryz.prog 37 #[.string (bs s), .func (.func 38) #[] #[]] w fun e w' =>
  ∃ A, e = .returned (.slice (some ⟨A, 0, none⟩) (fieldsB s).length (fieldsB s).length) ∧ w.heap.size ≤ A ∧
   w'.ownsRow w.heap.size 9 1 (.slice (some ⟨A, 0, none⟩) (fieldsB s).length (fieldsB s).length) (fieldsB s).length ((fieldsB s).map Value.string) ∧ Below w.heap.size w w' :=
 Tryz.strings_FieldsFunc_grows 38 #[] (enters_of Tryz.func38 (by kernel_rfl) rfl) (fun x => x == 32) (bs s) w (by simp [bs, ByteArray.size]; omega) (fun W x _ _ => NBlank_any x W)
end Go.Proofs.YtglilddlhibogaaGreatDoor.W
