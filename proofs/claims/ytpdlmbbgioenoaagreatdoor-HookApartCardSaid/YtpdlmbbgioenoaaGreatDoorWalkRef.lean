/- A part of the proof; each theorem states its conditions. -/
import Derived.Test.YtpdlmbbgioenoaaGreatDoorWalkOp
import Derived.Test.YtpdlmbbgioenoaaGreatDoorPureRef
set_option linter.unusedSimpArgs false
set_option linter.unusedVariables false
namespace Go.Proofs.YtpdlmbbgioenoaaGreatDoor.W
open Go.RowKit Go.Proofs.YtpdlmbbgioenoaaGreatDoor.P
set_option maxHeartbeats 1000000 in
theorem RefFill_any (n : Int) (hn : In64 n) (w : World) :
  Calls Tryz.prog 225 #[.int .i64 n] w fun e w' => e = .returned (.int .i64 (P.fill n)) ∧ w = w' := by
 have n1 : n ≤ 9223372036854775807 := hn.2
 clear hn
 go_enter Tryz.func225, Tryz.ntmps225
 go_wp2_with fail
 go_loop [3] (fun f => ∃ i : Nat, i ≤ 63 ∧ f = .int .i64 (2 ^ i - 1) ∧ (1 ≤ i → 2 ^ (i - 1) - 1 < n)) (fun f => (n - intOf f).toNat)
 case atStart => exact ⟨0, by omega, rfl, by omega⟩
 case round =>
  obtain ⟨i, hi, rfl, hl⟩ := hrel
  have hp := pow_pos i
  have hq := pow63 (show i < 64 by omega)
  have HL := Lib.hid hl
  clear hl
  by_cases h : 2 ^ i - 1 < n
  ·have hi2 : i < 63 := by
    by_cases e : i = 63
    ·subst e
     have : (2 : Int) ^ 63 = 9223372036854775808 := by decide
     omega
    ·omega
   have hq2 := pow63 (show i + 1 < 64 by omega)
   rw [Int.pow_succ] at hq2
   go_wp2_with fail
   go_round
   case rel => exact ⟨i + 1, by omega, by rw [Int.pow_succ]; go_num, fun _ => h⟩
   case measure => simp [intOf]; omega
  ·go_wp2_with fail
   go_ret
   exact ⟨ret_int (fill_of (by omega) HL.out).symm, rfl⟩
theorem asks_of (c : Int) : P.asks c = (decide (15 ≤ c) && decide (c ≤ 24)) := rfl
set_option maxHeartbeats 1000000 in
theorem Asks_any (c : Int) (w : World) :
  Calls Tryz.prog 63 #[.int .i64 c] w fun e w' => e = .returned (.bool (P.asks c)) ∧ w = w' := by
 go_enter Tryz.func63, Tryz.ntmps63
 go_wp2_with fail
 all_goals go_ret
 all_goals (refine ⟨ret_bool ?_, rfl⟩; simp [P.asks, *]; try (intros; omega))
end Go.Proofs.YtpdlmbbgioenoaaGreatDoor.W
