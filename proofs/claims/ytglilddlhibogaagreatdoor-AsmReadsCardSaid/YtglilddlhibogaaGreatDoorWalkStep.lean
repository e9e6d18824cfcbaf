/- The walks of op.wrong and of the reference's wrong: what is wrong with a step by itself. No conditions. -/
import Derived.Test.YtglilddlhibogaaGreatDoorWalkRef
import Derived.Test.YtglilddlhibogaaGreatDoorWalkBound
import Derived.Test.YtglilddlhibogaaGreatDoorPureStep
namespace Go.Proofs.YtglilddlhibogaaGreatDoor.W
open Go.RowKit Go.Proofs.YtglilddlhibogaaGreatDoor.P
set_option linter.unusedSimpArgs false
set_option linter.unusedVariables false

/-- an error as a value: nil, or its number -/
def errV (k : Int) : Value := if k = 0 then .nilIface else .iface 30 (.int .i64 k)
theorem errV_0 : errV 0 = .nilIface := rfl
theorem errV_pos {k : Int} (h : k ≠ 0) : errV k = .iface 30 (.int .i64 k) := if_neg h

theorem Reg_any (n : Int) (w : World) : Calls Tryz.prog 101 #[.int .i64 n] w fun e w' => e = .returned (.bool (decide (0 ≤ n) && decide (n < 11))) ∧ w = w' := by
 by_cases h : 0 ≤ n
 all_goals
  go_enter Tryz.func101, Tryz.ntmps101
  go_wp2_with fail
  go_ret
  exact ⟨ret_bool (by simp [h]; try omega), rfl⟩
theorem Number_any (c : Int) (w : World) : Calls Tryz.prog 102 #[.int .i64 c] w fun e w' => e = .returned (.bool (decide (1 ≤ c) && decide (c ≤ 12))) ∧ w = w' := by
 by_cases h : 1 ≤ c
 all_goals
  go_enter Tryz.func102, Tryz.ntmps102
  go_wp2_with fail
  go_ret
  exact ⟨ret_bool (by simp [h]; try omega), rfl⟩
theorem Makes_any (c : Int) (w : World) : Calls Tryz.prog 57 #[.int .i64 c] w fun e w' => e = .returned (.bool (decide (1 ≤ c) && decide (c ≤ 12))) ∧ w = w' := by
 go_enter Tryz.func57, Tryz.ntmps57
 go_wp2_with (go_at_call 50; refine (In_any _ _ _ _).mono ?_; rintro e w' ⟨rfl, rfl⟩)
 go_ret
 exact ⟨rfl, rfl⟩

set_option maxRecDepth 100000 in
set_option maxHeartbeats 8000000 in
theorem Wrong_out (c : Int) (hc : c < 1 ∨ 28 < c) (d s : Int) (r : Bool) (o n : Int) (w : World) :
  Calls Tryz.prog 71 #[.agg #[.int .i64 c, .int .i64 d, .int .i64 s, .bool r, .int .i64 o, .int .i64 n]] w fun e w' => e = .returned (errV (wrong c d s r o n)) ∧ Below w.heap.size w w' := by
 have HW0 := Lib.hid (Below.refl w.heap.size w)
 rw [wrong_3 hc]
 by_cases h1 : c < 1
 ·have h2 : ¬ 1 ≤ c := by omega
  have h5 : (decide (1 ≤ c) && decide (c ≤ 28)) = false := by simp; omega
  clear hc
  go_enter Tryz.func71, Tryz.ntmps71
  go_wp2_with fail
  go_ret
  exact ⟨rfl, (by repeat' (first | with_reducible (first | exact HW0.out | apply bR | apply bD | apply bN | apply bA | apply bS) | (simp; done) | (simp; omega) | omega))⟩
 ·have h2 : 1 ≤ c := by omega
  have h3 : 28 < c := by omega
  have h4 : ¬ c ≤ 28 := by omega
  clear hc
  go_enter Tryz.func71, Tryz.ntmps71
  go_wp2_with fail
  go_ret
  exact ⟨rfl, (by repeat' (first | with_reducible (first | exact HW0.out | apply bR | apply bD | apply bN | apply bA | apply bS) | (simp; done) | (simp; omega) | omega))⟩

set_option maxRecDepth 100000 in
set_option maxHeartbeats 8000000 in
theorem Wrong_make (c : Int) (hc : 1 ≤ c ∧ c ≤ 12) (d s : Int) (r : Bool) (o n : Int) (w : World) :
  Calls Tryz.prog 71 #[.agg #[.int .i64 c, .int .i64 d, .int .i64 s, .bool r, .int .i64 o, .int .i64 n]] w fun e w' => e = .returned (errV (wrong c d s r o n)) ∧ Below w.heap.size w w' := by
 have HW0 := Lib.hid (Below.refl w.heap.size w)
 have f13 : (c == 13) = false := by rw [beq_eq_false_iff_ne]; omega
 have f14 : (c == 14) = false := by rw [beq_eq_false_iff_ne]; omega
 have f25 : (c == 25) = false := by rw [beq_eq_false_iff_ne]; omega
 have f26 : (c == 26) = false := by rw [beq_eq_false_iff_ne]; omega
 have f27 : (c == 27) = false := by rw [beq_eq_false_iff_ne]; omega
 have f1 : ¬ c < 1 := by omega
 have f28 : ¬ 28 < c := by omega
 have f1b : 1 ≤ c := by omega
 have f28b : c ≤ 28 := by omega
 have f12 : c ≤ 12 := by omega
 have f13b : c ≤ 13 := by omega
 have f15 : ¬ 15 ≤ c := by omega
 cases r
 all_goals
  go_enter Tryz.func71, Tryz.ntmps71
  go_wp2_with (first | (go_at_call 101; refine (Reg_any _ _).mono ?_; rintro e w' ⟨rfl, rfl⟩) | (go_at_call 102; refine (Number_any _ _).mono ?_; rintro e w' ⟨rfl, rfl⟩) | (go_at_call 68; refine (Asks_any _ _).mono ?_; rintro e w' ⟨rfl, rfl⟩; rw [asks_of]))
 all_goals
  go_ret
  refine ⟨?_, (by repeat' (first | with_reducible (first | exact HW0.out | apply bR | apply bD | apply bN | apply bA | apply bS) | (simp; done) | (simp; omega) | omega))⟩
  (try simp only [Bool.not_eq_eq_eq_not, Bool.not_true, Bool.not_false, decide_eq_true_eq, decide_eq_false_iff_not, Bool.or_eq_true, Bool.and_eq_true, Bool.or_eq_false_iff, Bool.and_eq_false_iff, beq_iff_eq, beq_eq_false_iff_ne, bne_iff_ne, bne_eq_false_iff_eq, ne_eq] at *)
  (first | (rw [wrong_3 (by first | omega | (simp [bad, two]; done) | (simp [bad, two]; omega)), errV_pos (by decide)]; rfl) | (rw [wrong_2 (by first | omega | (simp [bad, two]; done) | (simp [bad, two]; omega)) (by first | omega | (simp [bad, two]; done) | (simp [bad, two]; omega)), errV_pos (by decide)]; rfl) | (rw [wrong_6 (by first | omega | (simp [bad, two]; done) | (simp [bad, two]; omega)) (by first | omega | (simp [bad, two]; done) | (simp [bad, two]; omega)) (by first | omega | (simp [bad, two]; done) | (simp [bad, two]; omega)), errV_pos (by decide)]; rfl) | (rw [wrong_1 (by first | omega | (simp [bad, two]; done) | (simp [bad, two]; omega)) (by first | omega | (simp [bad, two]; done) | (simp [bad, two]; omega)) (by first | omega | (simp [bad, two]; done) | (simp [bad, two]; omega)) (by first | omega | (simp [bad, two]; done) | (simp [bad, two]; omega)), errV_pos (by decide)]; rfl) | (rw [wrong_0 (by first | omega | (simp [bad, two]; done) | (simp [bad, two]; omega)) (by first | omega | (simp [bad, two]; done) | (simp [bad, two]; omega)) (by first | omega | (simp [bad, two]; done) | (simp [bad, two]; omega)) (by first | omega | (simp [bad, two]; done) | (simp [bad, two]; omega)), errV_0]; rfl))

set_option maxRecDepth 100000 in
set_option maxHeartbeats 8000000 in
theorem Wrong_neg (d s : Int) (r : Bool) (o n : Int) (w : World) :
  Calls Tryz.prog 71 #[.agg #[.int .i64 13, .int .i64 d, .int .i64 s, .bool r, .int .i64 o, .int .i64 n]] w fun e w' => e = .returned (errV (wrong 13 d s r o n)) ∧ Below w.heap.size w w' := by
 have HW0 := Lib.hid (Below.refl w.heap.size w)
 cases r
 all_goals
  go_enter Tryz.func71, Tryz.ntmps71
  go_wp2_with (first | (go_at_call 101; refine (Reg_any _ _).mono ?_; rintro e w' ⟨rfl, rfl⟩) | (go_at_call 102; refine (Number_any _ _).mono ?_; rintro e w' ⟨rfl, rfl⟩) | (go_at_call 68; refine (Asks_any _ _).mono ?_; rintro e w' ⟨rfl, rfl⟩; rw [asks_of]))
 all_goals
  go_ret
  refine ⟨?_, (by repeat' (first | with_reducible (first | exact HW0.out | apply bR | apply bD | apply bN | apply bA | apply bS) | (simp; done) | (simp; omega) | omega))⟩
  (try simp only [Bool.not_eq_eq_eq_not, Bool.not_true, Bool.not_false, decide_eq_true_eq, decide_eq_false_iff_not, Bool.or_eq_true, Bool.and_eq_true, Bool.or_eq_false_iff, Bool.and_eq_false_iff, beq_iff_eq, beq_eq_false_iff_ne, bne_iff_ne, bne_eq_false_iff_eq, ne_eq] at *)
  (first | (rw [wrong_3 (by first | omega | (simp [bad, two]; done) | (simp [bad, two]; omega)), errV_pos (by decide)]; rfl) | (rw [wrong_2 (by first | omega | (simp [bad, two]; done) | (simp [bad, two]; omega)) (by first | omega | (simp [bad, two]; done) | (simp [bad, two]; omega)), errV_pos (by decide)]; rfl) | (rw [wrong_6 (by first | omega | (simp [bad, two]; done) | (simp [bad, two]; omega)) (by first | omega | (simp [bad, two]; done) | (simp [bad, two]; omega)) (by first | omega | (simp [bad, two]; done) | (simp [bad, two]; omega)), errV_pos (by decide)]; rfl) | (rw [wrong_1 (by first | omega | (simp [bad, two]; done) | (simp [bad, two]; omega)) (by first | omega | (simp [bad, two]; done) | (simp [bad, two]; omega)) (by first | omega | (simp [bad, two]; done) | (simp [bad, two]; omega)) (by first | omega | (simp [bad, two]; done) | (simp [bad, two]; omega)), errV_pos (by decide)]; rfl) | (rw [wrong_0 (by first | omega | (simp [bad, two]; done) | (simp [bad, two]; omega)) (by first | omega | (simp [bad, two]; done) | (simp [bad, two]; omega)) (by first | omega | (simp [bad, two]; done) | (simp [bad, two]; omega)) (by first | omega | (simp [bad, two]; done) | (simp [bad, two]; omega)), errV_0]; rfl))

set_option maxRecDepth 100000 in
set_option maxHeartbeats 8000000 in
theorem Wrong_jump (d s : Int) (r : Bool) (o n : Int) (w : World) :
  Calls Tryz.prog 71 #[.agg #[.int .i64 14, .int .i64 d, .int .i64 s, .bool r, .int .i64 o, .int .i64 n]] w fun e w' => e = .returned (errV (wrong 14 d s r o n)) ∧ Below w.heap.size w w' := by
 have HW0 := Lib.hid (Below.refl w.heap.size w)
 cases r
 all_goals
  go_enter Tryz.func71, Tryz.ntmps71
  go_wp2_with (first | (go_at_call 101; refine (Reg_any _ _).mono ?_; rintro e w' ⟨rfl, rfl⟩) | (go_at_call 102; refine (Number_any _ _).mono ?_; rintro e w' ⟨rfl, rfl⟩) | (go_at_call 68; refine (Asks_any _ _).mono ?_; rintro e w' ⟨rfl, rfl⟩; rw [asks_of]))
 all_goals
  go_ret
  refine ⟨?_, (by repeat' (first | with_reducible (first | exact HW0.out | apply bR | apply bD | apply bN | apply bA | apply bS) | (simp; done) | (simp; omega) | omega))⟩
  (try simp only [Bool.not_eq_eq_eq_not, Bool.not_true, Bool.not_false, decide_eq_true_eq, decide_eq_false_iff_not, Bool.or_eq_true, Bool.and_eq_true, Bool.or_eq_false_iff, Bool.and_eq_false_iff, beq_iff_eq, beq_eq_false_iff_ne, bne_iff_ne, bne_eq_false_iff_eq, ne_eq] at *)
  (first | (rw [wrong_3 (by first | omega | (simp [bad, two]; done) | (simp [bad, two]; omega)), errV_pos (by decide)]; rfl) | (rw [wrong_2 (by first | omega | (simp [bad, two]; done) | (simp [bad, two]; omega)) (by first | omega | (simp [bad, two]; done) | (simp [bad, two]; omega)), errV_pos (by decide)]; rfl) | (rw [wrong_6 (by first | omega | (simp [bad, two]; done) | (simp [bad, two]; omega)) (by first | omega | (simp [bad, two]; done) | (simp [bad, two]; omega)) (by first | omega | (simp [bad, two]; done) | (simp [bad, two]; omega)), errV_pos (by decide)]; rfl) | (rw [wrong_1 (by first | omega | (simp [bad, two]; done) | (simp [bad, two]; omega)) (by first | omega | (simp [bad, two]; done) | (simp [bad, two]; omega)) (by first | omega | (simp [bad, two]; done) | (simp [bad, two]; omega)) (by first | omega | (simp [bad, two]; done) | (simp [bad, two]; omega)), errV_pos (by decide)]; rfl) | (rw [wrong_0 (by first | omega | (simp [bad, two]; done) | (simp [bad, two]; omega)) (by first | omega | (simp [bad, two]; done) | (simp [bad, two]; omega)) (by first | omega | (simp [bad, two]; done) | (simp [bad, two]; omega)) (by first | omega | (simp [bad, two]; done) | (simp [bad, two]; omega)), errV_0]; rfl))

set_option maxRecDepth 100000 in
set_option maxHeartbeats 8000000 in
theorem Wrong_ask (c : Int) (hc : 15 ≤ c ∧ c ≤ 24) (d s : Int) (r : Bool) (o n : Int) (w : World) :
  Calls Tryz.prog 71 #[.agg #[.int .i64 c, .int .i64 d, .int .i64 s, .bool r, .int .i64 o, .int .i64 n]] w fun e w' => e = .returned (errV (wrong c d s r o n)) ∧ Below w.heap.size w w' := by
 have HW0 := Lib.hid (Below.refl w.heap.size w)
 have f13 : (c == 13) = false := by rw [beq_eq_false_iff_ne]; omega
 have f14 : (c == 14) = false := by rw [beq_eq_false_iff_ne]; omega
 have f25 : (c == 25) = false := by rw [beq_eq_false_iff_ne]; omega
 have f26 : (c == 26) = false := by rw [beq_eq_false_iff_ne]; omega
 have f27 : (c == 27) = false := by rw [beq_eq_false_iff_ne]; omega
 have f1 : ¬ c < 1 := by omega
 have f28 : ¬ 28 < c := by omega
 have f1b : 1 ≤ c := by omega
 have f28b : c ≤ 28 := by omega
 have f12 : ¬ c ≤ 12 := by omega
 have f13b : ¬ c ≤ 13 := by omega
 have f13c : 13 < c := by omega
 have f15 : 15 ≤ c := by omega
 have f24 : c ≤ 24 := by omega
 cases r
 all_goals
  go_enter Tryz.func71, Tryz.ntmps71
  go_wp2_with (first | (go_at_call 101; refine (Reg_any _ _).mono ?_; rintro e w' ⟨rfl, rfl⟩) | (go_at_call 102; refine (Number_any _ _).mono ?_; rintro e w' ⟨rfl, rfl⟩) | (go_at_call 68; refine (Asks_any _ _).mono ?_; rintro e w' ⟨rfl, rfl⟩; rw [asks_of]))
 all_goals
  go_ret
  refine ⟨?_, (by repeat' (first | with_reducible (first | exact HW0.out | apply bR | apply bD | apply bN | apply bA | apply bS) | (simp; done) | (simp; omega) | omega))⟩
  (try simp only [Bool.not_eq_eq_eq_not, Bool.not_true, Bool.not_false, decide_eq_true_eq, decide_eq_false_iff_not, Bool.or_eq_true, Bool.and_eq_true, Bool.or_eq_false_iff, Bool.and_eq_false_iff, beq_iff_eq, beq_eq_false_iff_ne, bne_iff_ne, bne_eq_false_iff_eq, ne_eq] at *)
  (first | (rw [wrong_3 (by first | omega | (simp [bad, two]; done) | (simp [bad, two]; omega)), errV_pos (by decide)]; rfl) | (rw [wrong_2 (by first | omega | (simp [bad, two]; done) | (simp [bad, two]; omega)) (by first | omega | (simp [bad, two]; done) | (simp [bad, two]; omega)), errV_pos (by decide)]; rfl) | (rw [wrong_6 (by first | omega | (simp [bad, two]; done) | (simp [bad, two]; omega)) (by first | omega | (simp [bad, two]; done) | (simp [bad, two]; omega)) (by first | omega | (simp [bad, two]; done) | (simp [bad, two]; omega)), errV_pos (by decide)]; rfl) | (rw [wrong_1 (by first | omega | (simp [bad, two]; done) | (simp [bad, two]; omega)) (by first | omega | (simp [bad, two]; done) | (simp [bad, two]; omega)) (by first | omega | (simp [bad, two]; done) | (simp [bad, two]; omega)) (by first | omega | (simp [bad, two]; done) | (simp [bad, two]; omega)), errV_pos (by decide)]; rfl) | (rw [wrong_0 (by first | omega | (simp [bad, two]; done) | (simp [bad, two]; omega)) (by first | omega | (simp [bad, two]; done) | (simp [bad, two]; omega)) (by first | omega | (simp [bad, two]; done) | (simp [bad, two]; omega)) (by first | omega | (simp [bad, two]; done) | (simp [bad, two]; omega)), errV_0]; rfl))

set_option maxRecDepth 100000 in
set_option maxHeartbeats 8000000 in
theorem Wrong_load (d s : Int) (r : Bool) (o n : Int) (w : World) :
  Calls Tryz.prog 71 #[.agg #[.int .i64 25, .int .i64 d, .int .i64 s, .bool r, .int .i64 o, .int .i64 n]] w fun e w' => e = .returned (errV (wrong 25 d s r o n)) ∧ Below w.heap.size w w' := by
 have HW0 := Lib.hid (Below.refl w.heap.size w)
 cases r
 all_goals
  go_enter Tryz.func71, Tryz.ntmps71
  go_wp2_with (first | (go_at_call 101; refine (Reg_any _ _).mono ?_; rintro e w' ⟨rfl, rfl⟩) | (go_at_call 102; refine (Number_any _ _).mono ?_; rintro e w' ⟨rfl, rfl⟩) | (go_at_call 68; refine (Asks_any _ _).mono ?_; rintro e w' ⟨rfl, rfl⟩; rw [asks_of]))
 all_goals
  go_ret
  refine ⟨?_, (by repeat' (first | with_reducible (first | exact HW0.out | apply bR | apply bD | apply bN | apply bA | apply bS) | (simp; done) | (simp; omega) | omega))⟩
  (try simp only [Bool.not_eq_eq_eq_not, Bool.not_true, Bool.not_false, decide_eq_true_eq, decide_eq_false_iff_not, Bool.or_eq_true, Bool.and_eq_true, Bool.or_eq_false_iff, Bool.and_eq_false_iff, beq_iff_eq, beq_eq_false_iff_ne, bne_iff_ne, bne_eq_false_iff_eq, ne_eq] at *)
  (first | (rw [wrong_3 (by first | omega | (simp [bad, two]; done) | (simp [bad, two]; omega)), errV_pos (by decide)]; rfl) | (rw [wrong_2 (by first | omega | (simp [bad, two]; done) | (simp [bad, two]; omega)) (by first | omega | (simp [bad, two]; done) | (simp [bad, two]; omega)), errV_pos (by decide)]; rfl) | (rw [wrong_6 (by first | omega | (simp [bad, two]; done) | (simp [bad, two]; omega)) (by first | omega | (simp [bad, two]; done) | (simp [bad, two]; omega)) (by first | omega | (simp [bad, two]; done) | (simp [bad, two]; omega)), errV_pos (by decide)]; rfl) | (rw [wrong_1 (by first | omega | (simp [bad, two]; done) | (simp [bad, two]; omega)) (by first | omega | (simp [bad, two]; done) | (simp [bad, two]; omega)) (by first | omega | (simp [bad, two]; done) | (simp [bad, two]; omega)) (by first | omega | (simp [bad, two]; done) | (simp [bad, two]; omega)), errV_pos (by decide)]; rfl) | (rw [wrong_0 (by first | omega | (simp [bad, two]; done) | (simp [bad, two]; omega)) (by first | omega | (simp [bad, two]; done) | (simp [bad, two]; omega)) (by first | omega | (simp [bad, two]; done) | (simp [bad, two]; omega)) (by first | omega | (simp [bad, two]; done) | (simp [bad, two]; omega)), errV_0]; rfl))

set_option maxRecDepth 100000 in
set_option maxHeartbeats 8000000 in
theorem Wrong_store (d s : Int) (r : Bool) (o n : Int) (w : World) :
  Calls Tryz.prog 71 #[.agg #[.int .i64 26, .int .i64 d, .int .i64 s, .bool r, .int .i64 o, .int .i64 n]] w fun e w' => e = .returned (errV (wrong 26 d s r o n)) ∧ Below w.heap.size w w' := by
 have HW0 := Lib.hid (Below.refl w.heap.size w)
 cases r
 all_goals
  go_enter Tryz.func71, Tryz.ntmps71
  go_wp2_with (first | (go_at_call 101; refine (Reg_any _ _).mono ?_; rintro e w' ⟨rfl, rfl⟩) | (go_at_call 102; refine (Number_any _ _).mono ?_; rintro e w' ⟨rfl, rfl⟩) | (go_at_call 68; refine (Asks_any _ _).mono ?_; rintro e w' ⟨rfl, rfl⟩; rw [asks_of]))
 all_goals
  go_ret
  refine ⟨?_, (by repeat' (first | with_reducible (first | exact HW0.out | apply bR | apply bD | apply bN | apply bA | apply bS) | (simp; done) | (simp; omega) | omega))⟩
  (try simp only [Bool.not_eq_eq_eq_not, Bool.not_true, Bool.not_false, decide_eq_true_eq, decide_eq_false_iff_not, Bool.or_eq_true, Bool.and_eq_true, Bool.or_eq_false_iff, Bool.and_eq_false_iff, beq_iff_eq, beq_eq_false_iff_ne, bne_iff_ne, bne_eq_false_iff_eq, ne_eq] at *)
  (first | (rw [wrong_3 (by first | omega | (simp [bad, two]; done) | (simp [bad, two]; omega)), errV_pos (by decide)]; rfl) | (rw [wrong_2 (by first | omega | (simp [bad, two]; done) | (simp [bad, two]; omega)) (by first | omega | (simp [bad, two]; done) | (simp [bad, two]; omega)), errV_pos (by decide)]; rfl) | (rw [wrong_6 (by first | omega | (simp [bad, two]; done) | (simp [bad, two]; omega)) (by first | omega | (simp [bad, two]; done) | (simp [bad, two]; omega)) (by first | omega | (simp [bad, two]; done) | (simp [bad, two]; omega)), errV_pos (by decide)]; rfl) | (rw [wrong_1 (by first | omega | (simp [bad, two]; done) | (simp [bad, two]; omega)) (by first | omega | (simp [bad, two]; done) | (simp [bad, two]; omega)) (by first | omega | (simp [bad, two]; done) | (simp [bad, two]; omega)) (by first | omega | (simp [bad, two]; done) | (simp [bad, two]; omega)), errV_pos (by decide)]; rfl) | (rw [wrong_0 (by first | omega | (simp [bad, two]; done) | (simp [bad, two]; omega)) (by first | omega | (simp [bad, two]; done) | (simp [bad, two]; omega)) (by first | omega | (simp [bad, two]; done) | (simp [bad, two]; omega)) (by first | omega | (simp [bad, two]; done) | (simp [bad, two]; omega)), errV_0]; rfl))

set_option maxRecDepth 100000 in
set_option maxHeartbeats 8000000 in
theorem Wrong_call (d s : Int) (r : Bool) (o n : Int) (w : World) :
  Calls Tryz.prog 71 #[.agg #[.int .i64 27, .int .i64 d, .int .i64 s, .bool r, .int .i64 o, .int .i64 n]] w fun e w' => e = .returned (errV (wrong 27 d s r o n)) ∧ Below w.heap.size w w' := by
 have HW0 := Lib.hid (Below.refl w.heap.size w)
 cases r
 all_goals
  go_enter Tryz.func71, Tryz.ntmps71
  go_wp2_with (first | (go_at_call 101; refine (Reg_any _ _).mono ?_; rintro e w' ⟨rfl, rfl⟩) | (go_at_call 102; refine (Number_any _ _).mono ?_; rintro e w' ⟨rfl, rfl⟩) | (go_at_call 68; refine (Asks_any _ _).mono ?_; rintro e w' ⟨rfl, rfl⟩; rw [asks_of]))
 all_goals
  go_ret
  refine ⟨?_, (by repeat' (first | with_reducible (first | exact HW0.out | apply bR | apply bD | apply bN | apply bA | apply bS) | (simp; done) | (simp; omega) | omega))⟩
  (try simp only [Bool.not_eq_eq_eq_not, Bool.not_true, Bool.not_false, decide_eq_true_eq, decide_eq_false_iff_not, Bool.or_eq_true, Bool.and_eq_true, Bool.or_eq_false_iff, Bool.and_eq_false_iff, beq_iff_eq, beq_eq_false_iff_ne, bne_iff_ne, bne_eq_false_iff_eq, ne_eq] at *)
  (first | (rw [wrong_3 (by first | omega | (simp [bad, two]; done) | (simp [bad, two]; omega)), errV_pos (by decide)]; rfl) | (rw [wrong_2 (by first | omega | (simp [bad, two]; done) | (simp [bad, two]; omega)) (by first | omega | (simp [bad, two]; done) | (simp [bad, two]; omega)), errV_pos (by decide)]; rfl) | (rw [wrong_6 (by first | omega | (simp [bad, two]; done) | (simp [bad, two]; omega)) (by first | omega | (simp [bad, two]; done) | (simp [bad, two]; omega)) (by first | omega | (simp [bad, two]; done) | (simp [bad, two]; omega)), errV_pos (by decide)]; rfl) | (rw [wrong_1 (by first | omega | (simp [bad, two]; done) | (simp [bad, two]; omega)) (by first | omega | (simp [bad, two]; done) | (simp [bad, two]; omega)) (by first | omega | (simp [bad, two]; done) | (simp [bad, two]; omega)) (by first | omega | (simp [bad, two]; done) | (simp [bad, two]; omega)), errV_pos (by decide)]; rfl) | (rw [wrong_0 (by first | omega | (simp [bad, two]; done) | (simp [bad, two]; omega)) (by first | omega | (simp [bad, two]; done) | (simp [bad, two]; omega)) (by first | omega | (simp [bad, two]; done) | (simp [bad, two]; omega)) (by first | omega | (simp [bad, two]; done) | (simp [bad, two]; omega)), errV_0]; rfl))

set_option maxRecDepth 100000 in
set_option maxHeartbeats 8000000 in
theorem Wrong_exit (d s : Int) (r : Bool) (o n : Int) (w : World) :
  Calls Tryz.prog 71 #[.agg #[.int .i64 28, .int .i64 d, .int .i64 s, .bool r, .int .i64 o, .int .i64 n]] w fun e w' => e = .returned (errV (wrong 28 d s r o n)) ∧ Below w.heap.size w w' := by
 have HW0 := Lib.hid (Below.refl w.heap.size w)
 cases r
 all_goals
  go_enter Tryz.func71, Tryz.ntmps71
  go_wp2_with (first | (go_at_call 101; refine (Reg_any _ _).mono ?_; rintro e w' ⟨rfl, rfl⟩) | (go_at_call 102; refine (Number_any _ _).mono ?_; rintro e w' ⟨rfl, rfl⟩) | (go_at_call 68; refine (Asks_any _ _).mono ?_; rintro e w' ⟨rfl, rfl⟩; rw [asks_of]))
 all_goals
  go_ret
  refine ⟨?_, (by repeat' (first | with_reducible (first | exact HW0.out | apply bR | apply bD | apply bN | apply bA | apply bS) | (simp; done) | (simp; omega) | omega))⟩
  (try simp only [Bool.not_eq_eq_eq_not, Bool.not_true, Bool.not_false, decide_eq_true_eq, decide_eq_false_iff_not, Bool.or_eq_true, Bool.and_eq_true, Bool.or_eq_false_iff, Bool.and_eq_false_iff, beq_iff_eq, beq_eq_false_iff_ne, bne_iff_ne, bne_eq_false_iff_eq, ne_eq] at *)
  (first | (rw [wrong_3 (by first | omega | (simp [bad, two]; done) | (simp [bad, two]; omega)), errV_pos (by decide)]; rfl) | (rw [wrong_2 (by first | omega | (simp [bad, two]; done) | (simp [bad, two]; omega)) (by first | omega | (simp [bad, two]; done) | (simp [bad, two]; omega)), errV_pos (by decide)]; rfl) | (rw [wrong_6 (by first | omega | (simp [bad, two]; done) | (simp [bad, two]; omega)) (by first | omega | (simp [bad, two]; done) | (simp [bad, two]; omega)) (by first | omega | (simp [bad, two]; done) | (simp [bad, two]; omega)), errV_pos (by decide)]; rfl) | (rw [wrong_1 (by first | omega | (simp [bad, two]; done) | (simp [bad, two]; omega)) (by first | omega | (simp [bad, two]; done) | (simp [bad, two]; omega)) (by first | omega | (simp [bad, two]; done) | (simp [bad, two]; omega)) (by first | omega | (simp [bad, two]; done) | (simp [bad, two]; omega)), errV_pos (by decide)]; rfl) | (rw [wrong_0 (by first | omega | (simp [bad, two]; done) | (simp [bad, two]; omega)) (by first | omega | (simp [bad, two]; done) | (simp [bad, two]; omega)) (by first | omega | (simp [bad, two]; done) | (simp [bad, two]; omega)) (by first | omega | (simp [bad, two]; done) | (simp [bad, two]; omega)), errV_0]; rfl))

set_option maxRecDepth 100000 in
set_option maxHeartbeats 8000000 in
theorem RefWrong_out (c : Int) (hc : c < 1 ∨ 28 < c) (d s : Int) (r : Bool) (o n : Int) (w : World) :
  Calls Tryz.prog 62 #[.agg #[.int .i64 c, .int .i64 d, .int .i64 s, .bool r, .int .i64 o, .int .i64 n]] w fun e w' => e = .returned (.int .i64 (wrong c d s r o n)) ∧ Below w.heap.size w w' := by
 have HW0 := Lib.hid (Below.refl w.heap.size w)
 rw [wrong_3 hc]
 have h5 : (decide (1 ≤ c) && decide (c ≤ 28)) = false := by simp; omega
 clear hc
 go_enter Tryz.func62, Tryz.ntmps62
 go_wp2_with (go_at_call 50; refine (In_any _ _ _ _).mono ?_; rintro e w' ⟨rfl, rfl⟩)
 go_ret
 exact ⟨rfl, (by repeat' (first | with_reducible (first | exact HW0.out | apply bR | apply bD | apply bN | apply bA | apply bS) | (simp; done) | (simp; omega) | omega))⟩

set_option maxRecDepth 100000 in
set_option maxHeartbeats 8000000 in
theorem RefWrong_make (c : Int) (hc : 1 ≤ c ∧ c ≤ 12) (d s : Int) (r : Bool) (o n : Int) (w : World) :
  Calls Tryz.prog 62 #[.agg #[.int .i64 c, .int .i64 d, .int .i64 s, .bool r, .int .i64 o, .int .i64 n]] w fun e w' => e = .returned (.int .i64 (wrong c d s r o n)) ∧ Below w.heap.size w w' := by
 have HW0 := Lib.hid (Below.refl w.heap.size w)
 have f13 : (c == 13) = false := by rw [beq_eq_false_iff_ne]; omega
 have f14 : (c == 14) = false := by rw [beq_eq_false_iff_ne]; omega
 have f25 : (c == 25) = false := by rw [beq_eq_false_iff_ne]; omega
 have f26 : (c == 26) = false := by rw [beq_eq_false_iff_ne]; omega
 have f27 : (c == 27) = false := by rw [beq_eq_false_iff_ne]; omega
 have f1 : ¬ c < 1 := by omega
 have f28 : ¬ 28 < c := by omega
 have f1b : 1 ≤ c := by omega
 have f28b : c ≤ 28 := by omega
 have f12 : c ≤ 12 := by omega
 have f13b : c ≤ 13 := by omega
 have f15 : ¬ 15 ≤ c := by omega
 cases r
 all_goals
  go_enter Tryz.func62, Tryz.ntmps62
  go_wp2_with (first | (go_at_call 50; refine (In_any _ _ _ _).mono ?_; rintro e w' ⟨rfl, rfl⟩) | (go_at_call 57; refine (Makes_any _ _).mono ?_; rintro e w' ⟨rfl, rfl⟩) | (go_at_call 58; refine (RefAsks_any _ _).mono ?_; rintro e w' ⟨rfl, rfl⟩; rw [asks_of]))
 all_goals
  go_ret
  refine ⟨?_, (by repeat' (first | with_reducible (first | exact HW0.out | apply bR | apply bD | apply bN | apply bA | apply bS) | (simp; done) | (simp; omega) | omega))⟩
  (try simp only [Bool.not_eq_eq_eq_not, Bool.not_true, Bool.not_false, decide_eq_true_eq, decide_eq_false_iff_not, Bool.or_eq_true, Bool.and_eq_true, Bool.or_eq_false_iff, Bool.and_eq_false_iff, beq_iff_eq, beq_eq_false_iff_ne, bne_iff_ne, bne_eq_false_iff_eq, ne_eq] at *)
  (first | (rw [wrong_3 (by first | omega | (simp [bad, two]; done) | (simp [bad, two]; omega))]; rfl) | (rw [wrong_2 (by first | omega | (simp [bad, two]; done) | (simp [bad, two]; omega)) (by first | omega | (simp [bad, two]; done) | (simp [bad, two]; omega))]; rfl) | (rw [wrong_6 (by first | omega | (simp [bad, two]; done) | (simp [bad, two]; omega)) (by first | omega | (simp [bad, two]; done) | (simp [bad, two]; omega)) (by first | omega | (simp [bad, two]; done) | (simp [bad, two]; omega))]; rfl) | (rw [wrong_1 (by first | omega | (simp [bad, two]; done) | (simp [bad, two]; omega)) (by first | omega | (simp [bad, two]; done) | (simp [bad, two]; omega)) (by first | omega | (simp [bad, two]; done) | (simp [bad, two]; omega)) (by first | omega | (simp [bad, two]; done) | (simp [bad, two]; omega))]; rfl) | (rw [wrong_0 (by first | omega | (simp [bad, two]; done) | (simp [bad, two]; omega)) (by first | omega | (simp [bad, two]; done) | (simp [bad, two]; omega)) (by first | omega | (simp [bad, two]; done) | (simp [bad, two]; omega)) (by first | omega | (simp [bad, two]; done) | (simp [bad, two]; omega))]; rfl))

set_option maxRecDepth 100000 in
set_option maxHeartbeats 8000000 in
theorem RefWrong_neg (d s : Int) (r : Bool) (o n : Int) (w : World) :
  Calls Tryz.prog 62 #[.agg #[.int .i64 13, .int .i64 d, .int .i64 s, .bool r, .int .i64 o, .int .i64 n]] w fun e w' => e = .returned (.int .i64 (wrong 13 d s r o n)) ∧ Below w.heap.size w w' := by
 have HW0 := Lib.hid (Below.refl w.heap.size w)
 cases r
 all_goals
  go_enter Tryz.func62, Tryz.ntmps62
  go_wp2_with (first | (go_at_call 50; refine (In_any _ _ _ _).mono ?_; rintro e w' ⟨rfl, rfl⟩) | (go_at_call 57; refine (Makes_any _ _).mono ?_; rintro e w' ⟨rfl, rfl⟩) | (go_at_call 58; refine (RefAsks_any _ _).mono ?_; rintro e w' ⟨rfl, rfl⟩; rw [asks_of]))
 all_goals
  go_ret
  refine ⟨?_, (by repeat' (first | with_reducible (first | exact HW0.out | apply bR | apply bD | apply bN | apply bA | apply bS) | (simp; done) | (simp; omega) | omega))⟩
  (try simp only [Bool.not_eq_eq_eq_not, Bool.not_true, Bool.not_false, decide_eq_true_eq, decide_eq_false_iff_not, Bool.or_eq_true, Bool.and_eq_true, Bool.or_eq_false_iff, Bool.and_eq_false_iff, beq_iff_eq, beq_eq_false_iff_ne, bne_iff_ne, bne_eq_false_iff_eq, ne_eq] at *)
  (first | (rw [wrong_3 (by first | omega | (simp [bad, two]; done) | (simp [bad, two]; omega))]; rfl) | (rw [wrong_2 (by first | omega | (simp [bad, two]; done) | (simp [bad, two]; omega)) (by first | omega | (simp [bad, two]; done) | (simp [bad, two]; omega))]; rfl) | (rw [wrong_6 (by first | omega | (simp [bad, two]; done) | (simp [bad, two]; omega)) (by first | omega | (simp [bad, two]; done) | (simp [bad, two]; omega)) (by first | omega | (simp [bad, two]; done) | (simp [bad, two]; omega))]; rfl) | (rw [wrong_1 (by first | omega | (simp [bad, two]; done) | (simp [bad, two]; omega)) (by first | omega | (simp [bad, two]; done) | (simp [bad, two]; omega)) (by first | omega | (simp [bad, two]; done) | (simp [bad, two]; omega)) (by first | omega | (simp [bad, two]; done) | (simp [bad, two]; omega))]; rfl) | (rw [wrong_0 (by first | omega | (simp [bad, two]; done) | (simp [bad, two]; omega)) (by first | omega | (simp [bad, two]; done) | (simp [bad, two]; omega)) (by first | omega | (simp [bad, two]; done) | (simp [bad, two]; omega)) (by first | omega | (simp [bad, two]; done) | (simp [bad, two]; omega))]; rfl))

set_option maxRecDepth 100000 in
set_option maxHeartbeats 8000000 in
theorem RefWrong_jump (d s : Int) (r : Bool) (o n : Int) (w : World) :
  Calls Tryz.prog 62 #[.agg #[.int .i64 14, .int .i64 d, .int .i64 s, .bool r, .int .i64 o, .int .i64 n]] w fun e w' => e = .returned (.int .i64 (wrong 14 d s r o n)) ∧ Below w.heap.size w w' := by
 have HW0 := Lib.hid (Below.refl w.heap.size w)
 cases r
 all_goals
  go_enter Tryz.func62, Tryz.ntmps62
  go_wp2_with (first | (go_at_call 50; refine (In_any _ _ _ _).mono ?_; rintro e w' ⟨rfl, rfl⟩) | (go_at_call 57; refine (Makes_any _ _).mono ?_; rintro e w' ⟨rfl, rfl⟩) | (go_at_call 58; refine (RefAsks_any _ _).mono ?_; rintro e w' ⟨rfl, rfl⟩; rw [asks_of]))
 all_goals
  go_ret
  refine ⟨?_, (by repeat' (first | with_reducible (first | exact HW0.out | apply bR | apply bD | apply bN | apply bA | apply bS) | (simp; done) | (simp; omega) | omega))⟩
  (try simp only [Bool.not_eq_eq_eq_not, Bool.not_true, Bool.not_false, decide_eq_true_eq, decide_eq_false_iff_not, Bool.or_eq_true, Bool.and_eq_true, Bool.or_eq_false_iff, Bool.and_eq_false_iff, beq_iff_eq, beq_eq_false_iff_ne, bne_iff_ne, bne_eq_false_iff_eq, ne_eq] at *)
  (first | (rw [wrong_3 (by first | omega | (simp [bad, two]; done) | (simp [bad, two]; omega))]; rfl) | (rw [wrong_2 (by first | omega | (simp [bad, two]; done) | (simp [bad, two]; omega)) (by first | omega | (simp [bad, two]; done) | (simp [bad, two]; omega))]; rfl) | (rw [wrong_6 (by first | omega | (simp [bad, two]; done) | (simp [bad, two]; omega)) (by first | omega | (simp [bad, two]; done) | (simp [bad, two]; omega)) (by first | omega | (simp [bad, two]; done) | (simp [bad, two]; omega))]; rfl) | (rw [wrong_1 (by first | omega | (simp [bad, two]; done) | (simp [bad, two]; omega)) (by first | omega | (simp [bad, two]; done) | (simp [bad, two]; omega)) (by first | omega | (simp [bad, two]; done) | (simp [bad, two]; omega)) (by first | omega | (simp [bad, two]; done) | (simp [bad, two]; omega))]; rfl) | (rw [wrong_0 (by first | omega | (simp [bad, two]; done) | (simp [bad, two]; omega)) (by first | omega | (simp [bad, two]; done) | (simp [bad, two]; omega)) (by first | omega | (simp [bad, two]; done) | (simp [bad, two]; omega)) (by first | omega | (simp [bad, two]; done) | (simp [bad, two]; omega))]; rfl))

set_option maxRecDepth 100000 in
set_option maxHeartbeats 8000000 in
theorem RefWrong_ask (c : Int) (hc : 15 ≤ c ∧ c ≤ 24) (d s : Int) (r : Bool) (o n : Int) (w : World) :
  Calls Tryz.prog 62 #[.agg #[.int .i64 c, .int .i64 d, .int .i64 s, .bool r, .int .i64 o, .int .i64 n]] w fun e w' => e = .returned (.int .i64 (wrong c d s r o n)) ∧ Below w.heap.size w w' := by
 have HW0 := Lib.hid (Below.refl w.heap.size w)
 have f13 : (c == 13) = false := by rw [beq_eq_false_iff_ne]; omega
 have f14 : (c == 14) = false := by rw [beq_eq_false_iff_ne]; omega
 have f25 : (c == 25) = false := by rw [beq_eq_false_iff_ne]; omega
 have f26 : (c == 26) = false := by rw [beq_eq_false_iff_ne]; omega
 have f27 : (c == 27) = false := by rw [beq_eq_false_iff_ne]; omega
 have f1 : ¬ c < 1 := by omega
 have f28 : ¬ 28 < c := by omega
 have f1b : 1 ≤ c := by omega
 have f28b : c ≤ 28 := by omega
 have f12 : ¬ c ≤ 12 := by omega
 have f13b : ¬ c ≤ 13 := by omega
 have f13c : 13 < c := by omega
 have f15 : 15 ≤ c := by omega
 have f24 : c ≤ 24 := by omega
 cases r
 all_goals
  go_enter Tryz.func62, Tryz.ntmps62
  go_wp2_with (first | (go_at_call 50; refine (In_any _ _ _ _).mono ?_; rintro e w' ⟨rfl, rfl⟩) | (go_at_call 57; refine (Makes_any _ _).mono ?_; rintro e w' ⟨rfl, rfl⟩) | (go_at_call 58; refine (RefAsks_any _ _).mono ?_; rintro e w' ⟨rfl, rfl⟩; rw [asks_of]))
 all_goals
  go_ret
  refine ⟨?_, (by repeat' (first | with_reducible (first | exact HW0.out | apply bR | apply bD | apply bN | apply bA | apply bS) | (simp; done) | (simp; omega) | omega))⟩
  (try simp only [Bool.not_eq_eq_eq_not, Bool.not_true, Bool.not_false, decide_eq_true_eq, decide_eq_false_iff_not, Bool.or_eq_true, Bool.and_eq_true, Bool.or_eq_false_iff, Bool.and_eq_false_iff, beq_iff_eq, beq_eq_false_iff_ne, bne_iff_ne, bne_eq_false_iff_eq, ne_eq] at *)
  (first | (rw [wrong_3 (by first | omega | (simp [bad, two]; done) | (simp [bad, two]; omega))]; rfl) | (rw [wrong_2 (by first | omega | (simp [bad, two]; done) | (simp [bad, two]; omega)) (by first | omega | (simp [bad, two]; done) | (simp [bad, two]; omega))]; rfl) | (rw [wrong_6 (by first | omega | (simp [bad, two]; done) | (simp [bad, two]; omega)) (by first | omega | (simp [bad, two]; done) | (simp [bad, two]; omega)) (by first | omega | (simp [bad, two]; done) | (simp [bad, two]; omega))]; rfl) | (rw [wrong_1 (by first | omega | (simp [bad, two]; done) | (simp [bad, two]; omega)) (by first | omega | (simp [bad, two]; done) | (simp [bad, two]; omega)) (by first | omega | (simp [bad, two]; done) | (simp [bad, two]; omega)) (by first | omega | (simp [bad, two]; done) | (simp [bad, two]; omega))]; rfl) | (rw [wrong_0 (by first | omega | (simp [bad, two]; done) | (simp [bad, two]; omega)) (by first | omega | (simp [bad, two]; done) | (simp [bad, two]; omega)) (by first | omega | (simp [bad, two]; done) | (simp [bad, two]; omega)) (by first | omega | (simp [bad, two]; done) | (simp [bad, two]; omega))]; rfl))

set_option maxRecDepth 100000 in
set_option maxHeartbeats 8000000 in
theorem RefWrong_load (d s : Int) (r : Bool) (o n : Int) (w : World) :
  Calls Tryz.prog 62 #[.agg #[.int .i64 25, .int .i64 d, .int .i64 s, .bool r, .int .i64 o, .int .i64 n]] w fun e w' => e = .returned (.int .i64 (wrong 25 d s r o n)) ∧ Below w.heap.size w w' := by
 have HW0 := Lib.hid (Below.refl w.heap.size w)
 cases r
 all_goals
  go_enter Tryz.func62, Tryz.ntmps62
  go_wp2_with (first | (go_at_call 50; refine (In_any _ _ _ _).mono ?_; rintro e w' ⟨rfl, rfl⟩) | (go_at_call 57; refine (Makes_any _ _).mono ?_; rintro e w' ⟨rfl, rfl⟩) | (go_at_call 58; refine (RefAsks_any _ _).mono ?_; rintro e w' ⟨rfl, rfl⟩; rw [asks_of]))
 all_goals
  go_ret
  refine ⟨?_, (by repeat' (first | with_reducible (first | exact HW0.out | apply bR | apply bD | apply bN | apply bA | apply bS) | (simp; done) | (simp; omega) | omega))⟩
  (try simp only [Bool.not_eq_eq_eq_not, Bool.not_true, Bool.not_false, decide_eq_true_eq, decide_eq_false_iff_not, Bool.or_eq_true, Bool.and_eq_true, Bool.or_eq_false_iff, Bool.and_eq_false_iff, beq_iff_eq, beq_eq_false_iff_ne, bne_iff_ne, bne_eq_false_iff_eq, ne_eq] at *)
  (first | (rw [wrong_3 (by first | omega | (simp [bad, two]; done) | (simp [bad, two]; omega))]; rfl) | (rw [wrong_2 (by first | omega | (simp [bad, two]; done) | (simp [bad, two]; omega)) (by first | omega | (simp [bad, two]; done) | (simp [bad, two]; omega))]; rfl) | (rw [wrong_6 (by first | omega | (simp [bad, two]; done) | (simp [bad, two]; omega)) (by first | omega | (simp [bad, two]; done) | (simp [bad, two]; omega)) (by first | omega | (simp [bad, two]; done) | (simp [bad, two]; omega))]; rfl) | (rw [wrong_1 (by first | omega | (simp [bad, two]; done) | (simp [bad, two]; omega)) (by first | omega | (simp [bad, two]; done) | (simp [bad, two]; omega)) (by first | omega | (simp [bad, two]; done) | (simp [bad, two]; omega)) (by first | omega | (simp [bad, two]; done) | (simp [bad, two]; omega))]; rfl) | (rw [wrong_0 (by first | omega | (simp [bad, two]; done) | (simp [bad, two]; omega)) (by first | omega | (simp [bad, two]; done) | (simp [bad, two]; omega)) (by first | omega | (simp [bad, two]; done) | (simp [bad, two]; omega)) (by first | omega | (simp [bad, two]; done) | (simp [bad, two]; omega))]; rfl))

set_option maxRecDepth 100000 in
set_option maxHeartbeats 8000000 in
theorem RefWrong_store (d s : Int) (r : Bool) (o n : Int) (w : World) :
  Calls Tryz.prog 62 #[.agg #[.int .i64 26, .int .i64 d, .int .i64 s, .bool r, .int .i64 o, .int .i64 n]] w fun e w' => e = .returned (.int .i64 (wrong 26 d s r o n)) ∧ Below w.heap.size w w' := by
 have HW0 := Lib.hid (Below.refl w.heap.size w)
 cases r
 all_goals
  go_enter Tryz.func62, Tryz.ntmps62
  go_wp2_with (first | (go_at_call 50; refine (In_any _ _ _ _).mono ?_; rintro e w' ⟨rfl, rfl⟩) | (go_at_call 57; refine (Makes_any _ _).mono ?_; rintro e w' ⟨rfl, rfl⟩) | (go_at_call 58; refine (RefAsks_any _ _).mono ?_; rintro e w' ⟨rfl, rfl⟩; rw [asks_of]))
 all_goals
  go_ret
  refine ⟨?_, (by repeat' (first | with_reducible (first | exact HW0.out | apply bR | apply bD | apply bN | apply bA | apply bS) | (simp; done) | (simp; omega) | omega))⟩
  (try simp only [Bool.not_eq_eq_eq_not, Bool.not_true, Bool.not_false, decide_eq_true_eq, decide_eq_false_iff_not, Bool.or_eq_true, Bool.and_eq_true, Bool.or_eq_false_iff, Bool.and_eq_false_iff, beq_iff_eq, beq_eq_false_iff_ne, bne_iff_ne, bne_eq_false_iff_eq, ne_eq] at *)
  (first | (rw [wrong_3 (by first | omega | (simp [bad, two]; done) | (simp [bad, two]; omega))]; rfl) | (rw [wrong_2 (by first | omega | (simp [bad, two]; done) | (simp [bad, two]; omega)) (by first | omega | (simp [bad, two]; done) | (simp [bad, two]; omega))]; rfl) | (rw [wrong_6 (by first | omega | (simp [bad, two]; done) | (simp [bad, two]; omega)) (by first | omega | (simp [bad, two]; done) | (simp [bad, two]; omega)) (by first | omega | (simp [bad, two]; done) | (simp [bad, two]; omega))]; rfl) | (rw [wrong_1 (by first | omega | (simp [bad, two]; done) | (simp [bad, two]; omega)) (by first | omega | (simp [bad, two]; done) | (simp [bad, two]; omega)) (by first | omega | (simp [bad, two]; done) | (simp [bad, two]; omega)) (by first | omega | (simp [bad, two]; done) | (simp [bad, two]; omega))]; rfl) | (rw [wrong_0 (by first | omega | (simp [bad, two]; done) | (simp [bad, two]; omega)) (by first | omega | (simp [bad, two]; done) | (simp [bad, two]; omega)) (by first | omega | (simp [bad, two]; done) | (simp [bad, two]; omega)) (by first | omega | (simp [bad, two]; done) | (simp [bad, two]; omega))]; rfl))

set_option maxRecDepth 100000 in
set_option maxHeartbeats 8000000 in
theorem RefWrong_call (d s : Int) (r : Bool) (o n : Int) (w : World) :
  Calls Tryz.prog 62 #[.agg #[.int .i64 27, .int .i64 d, .int .i64 s, .bool r, .int .i64 o, .int .i64 n]] w fun e w' => e = .returned (.int .i64 (wrong 27 d s r o n)) ∧ Below w.heap.size w w' := by
 have HW0 := Lib.hid (Below.refl w.heap.size w)
 cases r
 all_goals
  go_enter Tryz.func62, Tryz.ntmps62
  go_wp2_with (first | (go_at_call 50; refine (In_any _ _ _ _).mono ?_; rintro e w' ⟨rfl, rfl⟩) | (go_at_call 57; refine (Makes_any _ _).mono ?_; rintro e w' ⟨rfl, rfl⟩) | (go_at_call 58; refine (RefAsks_any _ _).mono ?_; rintro e w' ⟨rfl, rfl⟩; rw [asks_of]))
 all_goals
  go_ret
  refine ⟨?_, (by repeat' (first | with_reducible (first | exact HW0.out | apply bR | apply bD | apply bN | apply bA | apply bS) | (simp; done) | (simp; omega) | omega))⟩
  (try simp only [Bool.not_eq_eq_eq_not, Bool.not_true, Bool.not_false, decide_eq_true_eq, decide_eq_false_iff_not, Bool.or_eq_true, Bool.and_eq_true, Bool.or_eq_false_iff, Bool.and_eq_false_iff, beq_iff_eq, beq_eq_false_iff_ne, bne_iff_ne, bne_eq_false_iff_eq, ne_eq] at *)
  (first | (rw [wrong_3 (by first | omega | (simp [bad, two]; done) | (simp [bad, two]; omega))]; rfl) | (rw [wrong_2 (by first | omega | (simp [bad, two]; done) | (simp [bad, two]; omega)) (by first | omega | (simp [bad, two]; done) | (simp [bad, two]; omega))]; rfl) | (rw [wrong_6 (by first | omega | (simp [bad, two]; done) | (simp [bad, two]; omega)) (by first | omega | (simp [bad, two]; done) | (simp [bad, two]; omega)) (by first | omega | (simp [bad, two]; done) | (simp [bad, two]; omega))]; rfl) | (rw [wrong_1 (by first | omega | (simp [bad, two]; done) | (simp [bad, two]; omega)) (by first | omega | (simp [bad, two]; done) | (simp [bad, two]; omega)) (by first | omega | (simp [bad, two]; done) | (simp [bad, two]; omega)) (by first | omega | (simp [bad, two]; done) | (simp [bad, two]; omega))]; rfl) | (rw [wrong_0 (by first | omega | (simp [bad, two]; done) | (simp [bad, two]; omega)) (by first | omega | (simp [bad, two]; done) | (simp [bad, two]; omega)) (by first | omega | (simp [bad, two]; done) | (simp [bad, two]; omega)) (by first | omega | (simp [bad, two]; done) | (simp [bad, two]; omega))]; rfl))

set_option maxRecDepth 100000 in
set_option maxHeartbeats 8000000 in
theorem RefWrong_exit (d s : Int) (r : Bool) (o n : Int) (w : World) :
  Calls Tryz.prog 62 #[.agg #[.int .i64 28, .int .i64 d, .int .i64 s, .bool r, .int .i64 o, .int .i64 n]] w fun e w' => e = .returned (.int .i64 (wrong 28 d s r o n)) ∧ Below w.heap.size w w' := by
 have HW0 := Lib.hid (Below.refl w.heap.size w)
 cases r
 all_goals
  go_enter Tryz.func62, Tryz.ntmps62
  go_wp2_with (first | (go_at_call 50; refine (In_any _ _ _ _).mono ?_; rintro e w' ⟨rfl, rfl⟩) | (go_at_call 57; refine (Makes_any _ _).mono ?_; rintro e w' ⟨rfl, rfl⟩) | (go_at_call 58; refine (RefAsks_any _ _).mono ?_; rintro e w' ⟨rfl, rfl⟩; rw [asks_of]))
 all_goals
  go_ret
  refine ⟨?_, (by repeat' (first | with_reducible (first | exact HW0.out | apply bR | apply bD | apply bN | apply bA | apply bS) | (simp; done) | (simp; omega) | omega))⟩
  (try simp only [Bool.not_eq_eq_eq_not, Bool.not_true, Bool.not_false, decide_eq_true_eq, decide_eq_false_iff_not, Bool.or_eq_true, Bool.and_eq_true, Bool.or_eq_false_iff, Bool.and_eq_false_iff, beq_iff_eq, beq_eq_false_iff_ne, bne_iff_ne, bne_eq_false_iff_eq, ne_eq] at *)
  (first | (rw [wrong_3 (by first | omega | (simp [bad, two]; done) | (simp [bad, two]; omega))]; rfl) | (rw [wrong_2 (by first | omega | (simp [bad, two]; done) | (simp [bad, two]; omega)) (by first | omega | (simp [bad, two]; done) | (simp [bad, two]; omega))]; rfl) | (rw [wrong_6 (by first | omega | (simp [bad, two]; done) | (simp [bad, two]; omega)) (by first | omega | (simp [bad, two]; done) | (simp [bad, two]; omega)) (by first | omega | (simp [bad, two]; done) | (simp [bad, two]; omega))]; rfl) | (rw [wrong_1 (by first | omega | (simp [bad, two]; done) | (simp [bad, two]; omega)) (by first | omega | (simp [bad, two]; done) | (simp [bad, two]; omega)) (by first | omega | (simp [bad, two]; done) | (simp [bad, two]; omega)) (by first | omega | (simp [bad, two]; done) | (simp [bad, two]; omega))]; rfl) | (rw [wrong_0 (by first | omega | (simp [bad, two]; done) | (simp [bad, two]; omega)) (by first | omega | (simp [bad, two]; done) | (simp [bad, two]; omega)) (by first | omega | (simp [bad, two]; done) | (simp [bad, two]; omega)) (by first | omega | (simp [bad, two]; done) | (simp [bad, two]; omega))]; rfl))

theorem Wrong_any (c d s : Int) (r : Bool) (o n : Int) (w : World) :
  Calls Tryz.prog 71 #[.agg #[.int .i64 c, .int .i64 d, .int .i64 s, .bool r, .int .i64 o, .int .i64 n]] w fun e w' => e = .returned (errV (wrong c d s r o n)) ∧ Below w.heap.size w w' := by
 by_cases h : c < 1 ∨ 28 < c
 ·exact Wrong_out c h d s r o n w
 by_cases h1 : c ≤ 12
 ·exact Wrong_make c ⟨by omega, h1⟩ d s r o n w
 by_cases h2 : 15 ≤ c ∧ c ≤ 24
 ·exact Wrong_ask c h2 d s r o n w
 have h3 : c = 13 ∨ c = 14 ∨ c = 25 ∨ c = 26 ∨ c = 27 ∨ c = 28 := by omega
 rcases h3 with rfl | rfl | rfl | rfl | rfl | rfl
 ·exact Wrong_neg d s r o n w
 ·exact Wrong_jump d s r o n w
 ·exact Wrong_load d s r o n w
 ·exact Wrong_store d s r o n w
 ·exact Wrong_call d s r o n w
 ·exact Wrong_exit d s r o n w

theorem RefWrong_any (c d s : Int) (r : Bool) (o n : Int) (w : World) :
  Calls Tryz.prog 62 #[.agg #[.int .i64 c, .int .i64 d, .int .i64 s, .bool r, .int .i64 o, .int .i64 n]] w fun e w' => e = .returned (.int .i64 (wrong c d s r o n)) ∧ Below w.heap.size w w' := by
 by_cases h : c < 1 ∨ 28 < c
 ·exact RefWrong_out c h d s r o n w
 by_cases h1 : c ≤ 12
 ·exact RefWrong_make c ⟨by omega, h1⟩ d s r o n w
 by_cases h2 : 15 ≤ c ∧ c ≤ 24
 ·exact RefWrong_ask c h2 d s r o n w
 have h3 : c = 13 ∨ c = 14 ∨ c = 25 ∨ c = 26 ∨ c = 27 ∨ c = 28 := by omega
 rcases h3 with rfl | rfl | rfl | rfl | rfl | rfl
 ·exact RefWrong_neg d s r o n w
 ·exact RefWrong_jump d s r o n w
 ·exact RefWrong_load d s r o n w
 ·exact RefWrong_store d s r o n w
 ·exact RefWrong_call d s r o n w
 ·exact RefWrong_exit d s r o n w

end Go.Proofs.YtglilddlhibogaaGreatDoor.W
