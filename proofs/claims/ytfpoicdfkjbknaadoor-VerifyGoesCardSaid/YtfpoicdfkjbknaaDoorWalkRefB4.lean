/- The walk of the reference's BoundDoes at Mul. Conditions: the ends are int64's in order; the variable 'all' holds all numbers. -/
import Derived.Test.YtfpoicdfkjbknaaDoorWalkRefB4d
import Derived.LoopN
import Derived.Deep.RegionWith
namespace Go.Proofs.YtfpoicdfkjbknaaDoor.W
open Go.RowKit Go.Proofs.YtfpoicdfkjbknaaDoor.P
set_option linter.unusedSimpArgs false
set_option linter.unusedVariables false

theorem RefJoin_self (n : Int) (w : World) :
  Calls Tryd.prog 34 #[.agg #[.int .i64 n, .int .i64 n], .agg #[.int .i64 n, .int .i64 n]] w fun e w' => e = .returned (.agg #[.int .i64 n, .int .i64 n]) ∧ Below w.heap.size w w' :=
 (RefJoin_any n n n n w).mono fun e w' h => ⟨by rw [h.1, Int.min_self, Int.max_self], h.2⟩

set_option maxRecDepth 100000 in
set_option maxHeartbeats 4000000 in
theorem RefB4_0lo (al ah bl bh : Int)  (h : al < -2147483648) (w : World) (hg0 : w.cell? ⟨4, 0, none⟩ = some (.int .i64 (-9223372036854775808))) (hg1 : w.cell? ⟨4, 1, none⟩ = some (.int .i64 9223372036854775807)) (gz : 4 < w.heap.size) :
  Calls Tryd.prog 79 #[.int .i64 4, .agg #[.int .i64 al, .int .i64 ah], .agg #[.int .i64 bl, .int .i64 bh]] w fun e w' => e = .returned (.agg #[.int .i64 ((-9223372036854775808)), .int .i64 (9223372036854775807)]) ∧ Below w.heap.size w w' := by
 have HW0 := Lib.hid (Below.refl w.heap.size w); (try have gq1 : 4 < w.heap.size + 1 := by omega); (try have gq2 : 4 < w.heap.size + 1 + 1 := by omega); (try have gq3 : 4 < w.heap.size + 1 + 1 + 1 := by omega); (try have gq4 : 4 < w.heap.size + 1 + 1 + 1 + 1 := by omega); (try have gq5 : 4 < w.heap.size + 1 + 1 + 1 + 1 + 1 := by omega); (try have gq6 : 4 < w.heap.size + 1 + 1 + 1 + 1 + 1 + 1 := by omega); (try have gq7 : 4 < w.heap.size + 1 + 1 + 1 + 1 + 1 + 1 + 1 := by omega)
 have p0 : ¬ 0 ≤ al := by omega
 go_enter Tryd.func79, Tryd.ntmps79
 go_wp2_with fail
 refine wp_loop_rounds 5 ?_
 rw [rounds_succ]
 go_wp2_with (rw [rounds_succ])
 exact bodyPost_ret (v := .agg #[.int .i64 ((-9223372036854775808)), .int .i64 (9223372036854775807)]) (by simp [results, Tryd.results79, go_sem, hg0, hg1, gz]) rfl ⟨rfl, (by repeat' (first | with_reducible (first | exact HW0.out | apply bR | apply bD | apply bN | apply bA | apply bS) | (simp; done) | (simp; omega) | omega))⟩

set_option maxRecDepth 100000 in
set_option maxHeartbeats 4000000 in
theorem RefB4_0hi (al ah bl bh : Int)  (h : 2147483648 < al) (w : World) (hg0 : w.cell? ⟨4, 0, none⟩ = some (.int .i64 (-9223372036854775808))) (hg1 : w.cell? ⟨4, 1, none⟩ = some (.int .i64 9223372036854775807)) (gz : 4 < w.heap.size) :
  Calls Tryd.prog 79 #[.int .i64 4, .agg #[.int .i64 al, .int .i64 ah], .agg #[.int .i64 bl, .int .i64 bh]] w fun e w' => e = .returned (.agg #[.int .i64 ((-9223372036854775808)), .int .i64 (9223372036854775807)]) ∧ Below w.heap.size w w' := by
 have HW0 := Lib.hid (Below.refl w.heap.size w); (try have gq1 : 4 < w.heap.size + 1 := by omega); (try have gq2 : 4 < w.heap.size + 1 + 1 := by omega); (try have gq3 : 4 < w.heap.size + 1 + 1 + 1 := by omega); (try have gq4 : 4 < w.heap.size + 1 + 1 + 1 + 1 := by omega); (try have gq5 : 4 < w.heap.size + 1 + 1 + 1 + 1 + 1 := by omega); (try have gq6 : 4 < w.heap.size + 1 + 1 + 1 + 1 + 1 + 1 := by omega); (try have gq7 : 4 < w.heap.size + 1 + 1 + 1 + 1 + 1 + 1 + 1 := by omega)
 have h' : ¬ al < -2147483648 := by omega
 have p0 : 0 ≤ al := by omega
 go_enter Tryd.func79, Tryd.ntmps79
 go_wp2_with fail
 refine wp_loop_rounds 5 ?_
 rw [rounds_succ]
 go_wp2_with (rw [rounds_succ])
 exact bodyPost_ret (v := .agg #[.int .i64 ((-9223372036854775808)), .int .i64 (9223372036854775807)]) (by simp [results, Tryd.results79, go_sem, hg0, hg1, gz]) rfl ⟨rfl, (by repeat' (first | with_reducible (first | exact HW0.out | apply bR | apply bD | apply bN | apply bA | apply bS) | (simp; done) | (simp; omega) | omega))⟩

set_option maxRecDepth 100000 in
set_option maxHeartbeats 4000000 in
theorem RefB4_1lo (al ah bl bh : Int) (s0 : -2147483648 ≤ al) (t0 : al ≤ 2147483648) (h : ah < -2147483648) (w : World) (hg0 : w.cell? ⟨4, 0, none⟩ = some (.int .i64 (-9223372036854775808))) (hg1 : w.cell? ⟨4, 1, none⟩ = some (.int .i64 9223372036854775807)) (gz : 4 < w.heap.size) :
  Calls Tryd.prog 79 #[.int .i64 4, .agg #[.int .i64 al, .int .i64 ah], .agg #[.int .i64 bl, .int .i64 bh]] w fun e w' => e = .returned (.agg #[.int .i64 ((-9223372036854775808)), .int .i64 (9223372036854775807)]) ∧ Below w.heap.size w w' := by
 have HW0 := Lib.hid (Below.refl w.heap.size w); (try have gq1 : 4 < w.heap.size + 1 := by omega); (try have gq2 : 4 < w.heap.size + 1 + 1 := by omega); (try have gq3 : 4 < w.heap.size + 1 + 1 + 1 := by omega); (try have gq4 : 4 < w.heap.size + 1 + 1 + 1 + 1 := by omega); (try have gq5 : 4 < w.heap.size + 1 + 1 + 1 + 1 + 1 := by omega); (try have gq6 : 4 < w.heap.size + 1 + 1 + 1 + 1 + 1 + 1 := by omega); (try have gq7 : 4 < w.heap.size + 1 + 1 + 1 + 1 + 1 + 1 + 1 := by omega)
 by_cases p0 : 0 ≤ al
 ·go_enter Tryd.func79, Tryd.ntmps79
  go_wp2_with fail
  refine wp_loop_rounds 5 ?_
  rw [rounds_succ]
  go_wp2_with (rw [rounds_succ])
  exact bodyPost_ret (v := .agg #[.int .i64 ((-9223372036854775808)), .int .i64 (9223372036854775807)]) (by simp [results, Tryd.results79, go_sem, hg0, hg1, gz]) rfl ⟨rfl, (by repeat' (first | with_reducible (first | exact HW0.out | apply bR | apply bD | apply bN | apply bA | apply bS) | (simp; done) | (simp; omega) | omega))⟩
 ·go_enter Tryd.func79, Tryd.ntmps79
  go_wp2_with fail
  refine wp_loop_rounds 5 ?_
  rw [rounds_succ]
  go_wp2_with (rw [rounds_succ])
  exact bodyPost_ret (v := .agg #[.int .i64 ((-9223372036854775808)), .int .i64 (9223372036854775807)]) (by simp [results, Tryd.results79, go_sem, hg0, hg1, gz]) rfl ⟨rfl, (by repeat' (first | with_reducible (first | exact HW0.out | apply bR | apply bD | apply bN | apply bA | apply bS) | (simp; done) | (simp; omega) | omega))⟩

set_option maxRecDepth 100000 in
set_option maxHeartbeats 4000000 in
theorem RefB4_1hi (al ah bl bh : Int) (s0 : -2147483648 ≤ al) (t0 : al ≤ 2147483648) (h : 2147483648 < ah) (w : World) (hg0 : w.cell? ⟨4, 0, none⟩ = some (.int .i64 (-9223372036854775808))) (hg1 : w.cell? ⟨4, 1, none⟩ = some (.int .i64 9223372036854775807)) (gz : 4 < w.heap.size) :
  Calls Tryd.prog 79 #[.int .i64 4, .agg #[.int .i64 al, .int .i64 ah], .agg #[.int .i64 bl, .int .i64 bh]] w fun e w' => e = .returned (.agg #[.int .i64 ((-9223372036854775808)), .int .i64 (9223372036854775807)]) ∧ Below w.heap.size w w' := by
 have HW0 := Lib.hid (Below.refl w.heap.size w); (try have gq1 : 4 < w.heap.size + 1 := by omega); (try have gq2 : 4 < w.heap.size + 1 + 1 := by omega); (try have gq3 : 4 < w.heap.size + 1 + 1 + 1 := by omega); (try have gq4 : 4 < w.heap.size + 1 + 1 + 1 + 1 := by omega); (try have gq5 : 4 < w.heap.size + 1 + 1 + 1 + 1 + 1 := by omega); (try have gq6 : 4 < w.heap.size + 1 + 1 + 1 + 1 + 1 + 1 := by omega); (try have gq7 : 4 < w.heap.size + 1 + 1 + 1 + 1 + 1 + 1 + 1 := by omega)
 have h' : ¬ ah < -2147483648 := by omega
 by_cases p0 : 0 ≤ al
 ·go_enter Tryd.func79, Tryd.ntmps79
  go_wp2_with fail
  refine wp_loop_rounds 5 ?_
  rw [rounds_succ]
  go_wp2_with (rw [rounds_succ])
  exact bodyPost_ret (v := .agg #[.int .i64 ((-9223372036854775808)), .int .i64 (9223372036854775807)]) (by simp [results, Tryd.results79, go_sem, hg0, hg1, gz]) rfl ⟨rfl, (by repeat' (first | with_reducible (first | exact HW0.out | apply bR | apply bD | apply bN | apply bA | apply bS) | (simp; done) | (simp; omega) | omega))⟩
 ·go_enter Tryd.func79, Tryd.ntmps79
  go_wp2_with fail
  refine wp_loop_rounds 5 ?_
  rw [rounds_succ]
  go_wp2_with (rw [rounds_succ])
  exact bodyPost_ret (v := .agg #[.int .i64 ((-9223372036854775808)), .int .i64 (9223372036854775807)]) (by simp [results, Tryd.results79, go_sem, hg0, hg1, gz]) rfl ⟨rfl, (by repeat' (first | with_reducible (first | exact HW0.out | apply bR | apply bD | apply bN | apply bA | apply bS) | (simp; done) | (simp; omega) | omega))⟩

set_option maxRecDepth 100000 in
set_option maxHeartbeats 4000000 in
theorem RefB4_2lo (al ah bl bh : Int) (s0 : -2147483648 ≤ al) (t0 : al ≤ 2147483648) (s1 : -2147483648 ≤ ah) (t1 : ah ≤ 2147483648) (h : bl < -2147483648) (w : World) (hg0 : w.cell? ⟨4, 0, none⟩ = some (.int .i64 (-9223372036854775808))) (hg1 : w.cell? ⟨4, 1, none⟩ = some (.int .i64 9223372036854775807)) (gz : 4 < w.heap.size) :
  Calls Tryd.prog 79 #[.int .i64 4, .agg #[.int .i64 al, .int .i64 ah], .agg #[.int .i64 bl, .int .i64 bh]] w fun e w' => e = .returned (.agg #[.int .i64 ((-9223372036854775808)), .int .i64 (9223372036854775807)]) ∧ Below w.heap.size w w' := by
 have HW0 := Lib.hid (Below.refl w.heap.size w); (try have gq1 : 4 < w.heap.size + 1 := by omega); (try have gq2 : 4 < w.heap.size + 1 + 1 := by omega); (try have gq3 : 4 < w.heap.size + 1 + 1 + 1 := by omega); (try have gq4 : 4 < w.heap.size + 1 + 1 + 1 + 1 := by omega); (try have gq5 : 4 < w.heap.size + 1 + 1 + 1 + 1 + 1 := by omega); (try have gq6 : 4 < w.heap.size + 1 + 1 + 1 + 1 + 1 + 1 := by omega); (try have gq7 : 4 < w.heap.size + 1 + 1 + 1 + 1 + 1 + 1 + 1 := by omega)
 by_cases p0 : 0 ≤ al
 ·go_enter Tryd.func79, Tryd.ntmps79
  go_wp2_with fail
  refine wp_loop_rounds 5 ?_
  rw [rounds_succ]
  go_wp2_with (rw [rounds_succ])
  exact bodyPost_ret (v := .agg #[.int .i64 ((-9223372036854775808)), .int .i64 (9223372036854775807)]) (by simp [results, Tryd.results79, go_sem, hg0, hg1, gz]) rfl ⟨rfl, (by repeat' (first | with_reducible (first | exact HW0.out | apply bR | apply bD | apply bN | apply bA | apply bS) | (simp; done) | (simp; omega) | omega))⟩
 ·go_enter Tryd.func79, Tryd.ntmps79
  go_wp2_with fail
  refine wp_loop_rounds 5 ?_
  rw [rounds_succ]
  go_wp2_with (rw [rounds_succ])
  exact bodyPost_ret (v := .agg #[.int .i64 ((-9223372036854775808)), .int .i64 (9223372036854775807)]) (by simp [results, Tryd.results79, go_sem, hg0, hg1, gz]) rfl ⟨rfl, (by repeat' (first | with_reducible (first | exact HW0.out | apply bR | apply bD | apply bN | apply bA | apply bS) | (simp; done) | (simp; omega) | omega))⟩

set_option maxRecDepth 100000 in
set_option maxHeartbeats 4000000 in
theorem RefB4_2hi (al ah bl bh : Int) (s0 : -2147483648 ≤ al) (t0 : al ≤ 2147483648) (s1 : -2147483648 ≤ ah) (t1 : ah ≤ 2147483648) (h : 2147483648 < bl) (w : World) (hg0 : w.cell? ⟨4, 0, none⟩ = some (.int .i64 (-9223372036854775808))) (hg1 : w.cell? ⟨4, 1, none⟩ = some (.int .i64 9223372036854775807)) (gz : 4 < w.heap.size) :
  Calls Tryd.prog 79 #[.int .i64 4, .agg #[.int .i64 al, .int .i64 ah], .agg #[.int .i64 bl, .int .i64 bh]] w fun e w' => e = .returned (.agg #[.int .i64 ((-9223372036854775808)), .int .i64 (9223372036854775807)]) ∧ Below w.heap.size w w' := by
 have HW0 := Lib.hid (Below.refl w.heap.size w); (try have gq1 : 4 < w.heap.size + 1 := by omega); (try have gq2 : 4 < w.heap.size + 1 + 1 := by omega); (try have gq3 : 4 < w.heap.size + 1 + 1 + 1 := by omega); (try have gq4 : 4 < w.heap.size + 1 + 1 + 1 + 1 := by omega); (try have gq5 : 4 < w.heap.size + 1 + 1 + 1 + 1 + 1 := by omega); (try have gq6 : 4 < w.heap.size + 1 + 1 + 1 + 1 + 1 + 1 := by omega); (try have gq7 : 4 < w.heap.size + 1 + 1 + 1 + 1 + 1 + 1 + 1 := by omega)
 have h' : ¬ bl < -2147483648 := by omega
 by_cases p0 : 0 ≤ al
 ·go_enter Tryd.func79, Tryd.ntmps79
  go_wp2_with fail
  refine wp_loop_rounds 5 ?_
  rw [rounds_succ]
  go_wp2_with (rw [rounds_succ])
  exact bodyPost_ret (v := .agg #[.int .i64 ((-9223372036854775808)), .int .i64 (9223372036854775807)]) (by simp [results, Tryd.results79, go_sem, hg0, hg1, gz]) rfl ⟨rfl, (by repeat' (first | with_reducible (first | exact HW0.out | apply bR | apply bD | apply bN | apply bA | apply bS) | (simp; done) | (simp; omega) | omega))⟩
 ·go_enter Tryd.func79, Tryd.ntmps79
  go_wp2_with fail
  refine wp_loop_rounds 5 ?_
  rw [rounds_succ]
  go_wp2_with (rw [rounds_succ])
  exact bodyPost_ret (v := .agg #[.int .i64 ((-9223372036854775808)), .int .i64 (9223372036854775807)]) (by simp [results, Tryd.results79, go_sem, hg0, hg1, gz]) rfl ⟨rfl, (by repeat' (first | with_reducible (first | exact HW0.out | apply bR | apply bD | apply bN | apply bA | apply bS) | (simp; done) | (simp; omega) | omega))⟩

set_option maxRecDepth 100000 in
set_option maxHeartbeats 4000000 in
theorem RefB4_3lo (al ah bl bh : Int) (s0 : -2147483648 ≤ al) (t0 : al ≤ 2147483648) (s1 : -2147483648 ≤ ah) (t1 : ah ≤ 2147483648) (s2 : -2147483648 ≤ bl) (t2 : bl ≤ 2147483648) (h : bh < -2147483648) (w : World) (hg0 : w.cell? ⟨4, 0, none⟩ = some (.int .i64 (-9223372036854775808))) (hg1 : w.cell? ⟨4, 1, none⟩ = some (.int .i64 9223372036854775807)) (gz : 4 < w.heap.size) :
  Calls Tryd.prog 79 #[.int .i64 4, .agg #[.int .i64 al, .int .i64 ah], .agg #[.int .i64 bl, .int .i64 bh]] w fun e w' => e = .returned (.agg #[.int .i64 ((-9223372036854775808)), .int .i64 (9223372036854775807)]) ∧ Below w.heap.size w w' := by
 have HW0 := Lib.hid (Below.refl w.heap.size w); (try have gq1 : 4 < w.heap.size + 1 := by omega); (try have gq2 : 4 < w.heap.size + 1 + 1 := by omega); (try have gq3 : 4 < w.heap.size + 1 + 1 + 1 := by omega); (try have gq4 : 4 < w.heap.size + 1 + 1 + 1 + 1 := by omega); (try have gq5 : 4 < w.heap.size + 1 + 1 + 1 + 1 + 1 := by omega); (try have gq6 : 4 < w.heap.size + 1 + 1 + 1 + 1 + 1 + 1 := by omega); (try have gq7 : 4 < w.heap.size + 1 + 1 + 1 + 1 + 1 + 1 + 1 := by omega)
 by_cases p0 : 0 ≤ al
 ·go_enter Tryd.func79, Tryd.ntmps79
  go_wp2_with fail
  refine wp_loop_rounds 5 ?_
  rw [rounds_succ]
  go_wp2_with (rw [rounds_succ])
  exact bodyPost_ret (v := .agg #[.int .i64 ((-9223372036854775808)), .int .i64 (9223372036854775807)]) (by simp [results, Tryd.results79, go_sem, hg0, hg1, gz]) rfl ⟨rfl, (by repeat' (first | with_reducible (first | exact HW0.out | apply bR | apply bD | apply bN | apply bA | apply bS) | (simp; done) | (simp; omega) | omega))⟩
 ·go_enter Tryd.func79, Tryd.ntmps79
  go_wp2_with fail
  refine wp_loop_rounds 5 ?_
  rw [rounds_succ]
  go_wp2_with (rw [rounds_succ])
  exact bodyPost_ret (v := .agg #[.int .i64 ((-9223372036854775808)), .int .i64 (9223372036854775807)]) (by simp [results, Tryd.results79, go_sem, hg0, hg1, gz]) rfl ⟨rfl, (by repeat' (first | with_reducible (first | exact HW0.out | apply bR | apply bD | apply bN | apply bA | apply bS) | (simp; done) | (simp; omega) | omega))⟩

set_option maxRecDepth 100000 in
set_option maxHeartbeats 4000000 in
theorem RefB4_3hi (al ah bl bh : Int) (s0 : -2147483648 ≤ al) (t0 : al ≤ 2147483648) (s1 : -2147483648 ≤ ah) (t1 : ah ≤ 2147483648) (s2 : -2147483648 ≤ bl) (t2 : bl ≤ 2147483648) (h : 2147483648 < bh) (w : World) (hg0 : w.cell? ⟨4, 0, none⟩ = some (.int .i64 (-9223372036854775808))) (hg1 : w.cell? ⟨4, 1, none⟩ = some (.int .i64 9223372036854775807)) (gz : 4 < w.heap.size) :
  Calls Tryd.prog 79 #[.int .i64 4, .agg #[.int .i64 al, .int .i64 ah], .agg #[.int .i64 bl, .int .i64 bh]] w fun e w' => e = .returned (.agg #[.int .i64 ((-9223372036854775808)), .int .i64 (9223372036854775807)]) ∧ Below w.heap.size w w' := by
 have HW0 := Lib.hid (Below.refl w.heap.size w); (try have gq1 : 4 < w.heap.size + 1 := by omega); (try have gq2 : 4 < w.heap.size + 1 + 1 := by omega); (try have gq3 : 4 < w.heap.size + 1 + 1 + 1 := by omega); (try have gq4 : 4 < w.heap.size + 1 + 1 + 1 + 1 := by omega); (try have gq5 : 4 < w.heap.size + 1 + 1 + 1 + 1 + 1 := by omega); (try have gq6 : 4 < w.heap.size + 1 + 1 + 1 + 1 + 1 + 1 := by omega); (try have gq7 : 4 < w.heap.size + 1 + 1 + 1 + 1 + 1 + 1 + 1 := by omega)
 have h' : ¬ bh < -2147483648 := by omega
 by_cases p0 : 0 ≤ al
 ·go_enter Tryd.func79, Tryd.ntmps79
  go_wp2_with fail
  refine wp_loop_rounds 5 ?_
  rw [rounds_succ]
  go_wp2_with (rw [rounds_succ])
  exact bodyPost_ret (v := .agg #[.int .i64 ((-9223372036854775808)), .int .i64 (9223372036854775807)]) (by simp [results, Tryd.results79, go_sem, hg0, hg1, gz]) rfl ⟨rfl, (by repeat' (first | with_reducible (first | exact HW0.out | apply bR | apply bD | apply bN | apply bA | apply bS) | (simp; done) | (simp; omega) | omega))⟩
 ·go_enter Tryd.func79, Tryd.ntmps79
  go_wp2_with fail
  refine wp_loop_rounds 5 ?_
  rw [rounds_succ]
  go_wp2_with (rw [rounds_succ])
  exact bodyPost_ret (v := .agg #[.int .i64 ((-9223372036854775808)), .int .i64 (9223372036854775807)]) (by simp [results, Tryd.results79, go_sem, hg0, hg1, gz]) rfl ⟨rfl, (by repeat' (first | with_reducible (first | exact HW0.out | apply bR | apply bD | apply bN | apply bA | apply bS) | (simp; done) | (simp; omega) | omega))⟩

set_option maxRecDepth 100000 in
set_option maxHeartbeats 40000000 in
theorem RefB4_allp (al ah bl bh : Int) (s0 : -2147483648 ≤ al) (t0 : al ≤ 2147483648) (s1 : -2147483648 ≤ ah) (t1 : ah ≤ 2147483648) (s2 : -2147483648 ≤ bl) (t2 : bl ≤ 2147483648) (s3 : -2147483648 ≤ bh) (t3 : bh ≤ 2147483648) (p0 : 0 ≤ al) (w : World) (hg0 : w.cell? ⟨4, 0, none⟩ = some (.int .i64 (-9223372036854775808))) (hg1 : w.cell? ⟨4, 1, none⟩ = some (.int .i64 9223372036854775807)) (gz : 4 < w.heap.size) :
  Calls Tryd.prog 79 #[.int .i64 4, .agg #[.int .i64 al, .int .i64 ah], .agg #[.int .i64 bl, .int .i64 bh]] w fun e w' => e = .returned (.agg #[.int .i64 (min (al * bl) (min (al * bh) (min (ah * bl) (ah * bh)))), .int .i64 (max (al * bl) (max (al * bh) (max (ah * bl) (ah * bh))))]) ∧ Below w.heap.size w w' := by
 have HW0 := Lib.hid (Below.refl w.heap.size w); (try have gq1 : 4 < w.heap.size + 1 := by omega); (try have gq2 : 4 < w.heap.size + 1 + 1 := by omega); (try have gq3 : 4 < w.heap.size + 1 + 1 + 1 := by omega); (try have gq4 : 4 < w.heap.size + 1 + 1 + 1 + 1 := by omega); (try have gq5 : 4 < w.heap.size + 1 + 1 + 1 + 1 + 1 := by omega); (try have gq6 : 4 < w.heap.size + 1 + 1 + 1 + 1 + 1 + 1 := by omega); (try have gq7 : 4 < w.heap.size + 1 + 1 + 1 + 1 + 1 + 1 + 1 := by omega)
 have q0 := prod_in s0 t0 s2 t2; have q1 := prod_in s0 t0 s3 t3; have q2 := prod_in s1 t1 s2 t2; have q3 := prod_in s1 t1 s3 t3
 go_enter Tryd.func79, Tryd.ntmps79
 go_wp2_with fail
 refine wp_loop_rounds 5 ?_
 rw [rounds_succ]
 go_wp2_with (rw [rounds_succ])
 generalize e0 : al * bl = P0 at *
 generalize e1 : al * bh = P1 at *
 generalize e2 : ah * bl = P2 at *
 generalize e3 : ah * bh = P3 at *
 have E0 := Lib.hid e0; have E1 := Lib.hid e1; have E2 := Lib.hid e2; have E3 := Lib.hid e3
 clear e0 e1 e2 e3 q0 q1 q2 q3 s0 t0 s1 t1 s2 t2 s3 t3
 refine (RefOne_any _ _).mono ?_
 (rintro e w1 ⟨rfl, hb⟩; obtain ⟨hc1, hf1⟩ := bcell hb; have hz1 := hb.size; (try simp at hz1); have HW1 := Lib.hid (show Below w.heap.size w w1 from Below.trans (by repeat' (first | with_reducible (first | exact HW0.out | apply bR | apply bD | apply bN | apply bA | apply bS) | (simp; done) | (simp; omega) | omega)) (hb.mono (by first | omega | simp <;> omega))); clear hb; (try have gq10 : 4 < w1.heap.size := by omega); (try have gq11 : 4 < w1.heap.size + 1 := by omega); (try have gq12 : 4 < w1.heap.size + 1 + 1 := by omega); (try have gq13 : 4 < w1.heap.size + 1 + 1 + 1 := by omega); (try have gq14 : 4 < w1.heap.size + 1 + 1 + 1 + 1 := by omega); (try have gq15 : 4 < w1.heap.size + 1 + 1 + 1 + 1 + 1 := by omega); (try have gq16 : 4 < w1.heap.size + 1 + 1 + 1 + 1 + 1 + 1 := by omega); (try have z10 : w.heap.size < w1.heap.size := by omega); (try have z11 : w.heap.size + 1 < w1.heap.size := by omega); (try have z12 : w.heap.size + 1 + 1 < w1.heap.size := by omega); (try have z13 : w.heap.size + 1 + 1 + 1 < w1.heap.size := by omega); (try have z14 : w.heap.size + 1 + 1 + 1 + 1 < w1.heap.size := by omega); (try have z15 : w.heap.size + 1 + 1 + 1 + 1 + 1 < w1.heap.size := by omega))
 have c1_0_0 : w1.cell? ⟨w.heap.size, 0, none⟩ = some (.int .i64 (al)) := by simp [go_sem, hc1]
 have r1_0_0 : w1.frozen? ⟨w.heap.size, 0, none⟩ = false := by simp [go_sem, hf1]
 have c1_0_1 : w1.cell? ⟨w.heap.size, 1, none⟩ = some (.int .i64 (ah)) := by simp [go_sem, hc1]
 have r1_0_1 : w1.frozen? ⟨w.heap.size, 1, none⟩ = false := by simp [go_sem, hf1]
 have c1_1_0 : w1.cell? ⟨w.heap.size + 1, 0, none⟩ = some (.int .i64 (bl)) := by simp [go_sem, hc1]
 have r1_1_0 : w1.frozen? ⟨w.heap.size + 1, 0, none⟩ = false := by simp [go_sem, hf1]
 have c1_1_1 : w1.cell? ⟨w.heap.size + 1, 1, none⟩ = some (.int .i64 (bh)) := by simp [go_sem, hc1]
 have r1_1_1 : w1.frozen? ⟨w.heap.size + 1, 1, none⟩ = false := by simp [go_sem, hf1]
 have c1_2_0 : w1.cell? ⟨w.heap.size + 1 + 1, 0, none⟩ = some (.int .i64 (0)) := by simp [go_sem, hc1]
 have r1_2_0 : w1.frozen? ⟨w.heap.size + 1 + 1, 0, none⟩ = false := by simp [go_sem, hf1]
 have c1_2_1 : w1.cell? ⟨w.heap.size + 1 + 1, 1, none⟩ = some (.int .i64 (0)) := by simp [go_sem, hc1]
 have r1_2_1 : w1.frozen? ⟨w.heap.size + 1 + 1, 1, none⟩ = false := by simp [go_sem, hf1]
 have c1_3_0 : w1.cell? ⟨w.heap.size + 1 + 1 + 1, 0, none⟩ = some (.int .i64 (al)) := by simp [go_sem, hc1]
 have r1_3_0 : w1.frozen? ⟨w.heap.size + 1 + 1 + 1, 0, none⟩ = false := by simp [go_sem, hf1]
 have c1_3_1 : w1.cell? ⟨w.heap.size + 1 + 1 + 1, 1, none⟩ = some (.int .i64 (ah)) := by simp [go_sem, hc1]
 have r1_3_1 : w1.frozen? ⟨w.heap.size + 1 + 1 + 1, 1, none⟩ = false := by simp [go_sem, hf1]
 have c1_3_2 : w1.cell? ⟨w.heap.size + 1 + 1 + 1, 2, none⟩ = some (.int .i64 (bl)) := by simp [go_sem, hc1]
 have r1_3_2 : w1.frozen? ⟨w.heap.size + 1 + 1 + 1, 2, none⟩ = false := by simp [go_sem, hf1]
 have c1_3_3 : w1.cell? ⟨w.heap.size + 1 + 1 + 1, 3, none⟩ = some (.int .i64 (bh)) := by simp [go_sem, hc1]
 have r1_3_3 : w1.frozen? ⟨w.heap.size + 1 + 1 + 1, 3, none⟩ = false := by simp [go_sem, hf1]
 have c1_4_0 : w1.cell? ⟨w.heap.size + 1 + 1 + 1 + 1, 0, none⟩ = some (.int .i64 (P0)) := by simp [go_sem, hc1]
 have r1_4_0 : w1.frozen? ⟨w.heap.size + 1 + 1 + 1 + 1, 0, none⟩ = false := by simp [go_sem, hf1]
 have c1_4_1 : w1.cell? ⟨w.heap.size + 1 + 1 + 1 + 1, 1, none⟩ = some (.int .i64 (P1)) := by simp [go_sem, hc1]
 have r1_4_1 : w1.frozen? ⟨w.heap.size + 1 + 1 + 1 + 1, 1, none⟩ = false := by simp [go_sem, hf1]
 have c1_4_2 : w1.cell? ⟨w.heap.size + 1 + 1 + 1 + 1, 2, none⟩ = some (.int .i64 (P2)) := by simp [go_sem, hc1]
 have r1_4_2 : w1.frozen? ⟨w.heap.size + 1 + 1 + 1 + 1, 2, none⟩ = false := by simp [go_sem, hf1]
 have c1_4_3 : w1.cell? ⟨w.heap.size + 1 + 1 + 1 + 1, 3, none⟩ = some (.int .i64 (P3)) := by simp [go_sem, hc1]
 have r1_4_3 : w1.frozen? ⟨w.heap.size + 1 + 1 + 1 + 1, 3, none⟩ = false := by simp [go_sem, hf1]
 clear hc1 hf1
 clear c1_0_0 r1_0_0 c1_0_1 r1_0_1 c1_1_0 r1_1_0 c1_1_1 r1_1_1 c1_3_0 c1_3_1 c1_3_2 c1_3_3 r1_3_0 r1_3_1 r1_3_2 r1_3_3 r1_4_0 r1_4_1 r1_4_2 r1_4_3
 go_wp2_with fail
 go_loopw [152] (fun i wr => ∃ k : Nat, k ≤ 4 ∧ i = .int .i64 k ∧ wr.cell? ⟨w1.heap.size, 0, none⟩ = some (.int .i64 (jlo P0 P1 P2 P3 k)) ∧ wr.cell? ⟨w1.heap.size, 1, none⟩ = some (.int .i64 (jhi P0 P1 P2 P3 k)) ∧ wr.frozen? ⟨w1.heap.size, 0, none⟩ = false ∧ wr.frozen? ⟨w1.heap.size, 1, none⟩ = false ∧ wr.cell? ⟨w.heap.size + 1 + 1, 0, none⟩ = some (.int .i64 0) ∧ wr.frozen? ⟨w.heap.size + 1 + 1, 0, none⟩ = false ∧ wr.cell? ⟨w.heap.size + 1 + 1, 1, none⟩ = some (.int .i64 0) ∧ wr.frozen? ⟨w.heap.size + 1 + 1, 1, none⟩ = false ∧ wr.cell? ⟨w.heap.size + 1 + 1 + 1 + 1, 0, none⟩ = some (.int .i64 P0) ∧ wr.cell? ⟨w.heap.size + 1 + 1 + 1 + 1, 1, none⟩ = some (.int .i64 P1) ∧ wr.cell? ⟨w.heap.size + 1 + 1 + 1 + 1, 2, none⟩ = some (.int .i64 P2) ∧ wr.cell? ⟨w.heap.size + 1 + 1 + 1 + 1, 3, none⟩ = some (.int .i64 P3) ∧ w.heap.size + 1 + 1 + 1 + 1 < wr.heap.size ∧ w1.heap.size < wr.heap.size ∧ Below w.heap.size w wr) (fun i _ => 4 - (intOf i).toNat)
 case atStart => exact ⟨0, by omega, rfl, (by first | rfl | assumption | (simp [go_sem, jlo, jhi, *]; done) | (simp; omega) | omega), (by first | rfl | assumption | (simp [go_sem, jlo, jhi, *]; done) | (simp; omega) | omega), (by first | rfl | assumption | (simp [go_sem, jlo, jhi, *]; done) | (simp; omega) | omega), (by first | rfl | assumption | (simp [go_sem, jlo, jhi, *]; done) | (simp; omega) | omega), (by first | rfl | assumption | (simp [go_sem, jlo, jhi, *]; done) | (simp; omega) | omega), (by first | rfl | assumption | (simp [go_sem, jlo, jhi, *]; done) | (simp; omega) | omega), (by first | rfl | assumption | (simp [go_sem, jlo, jhi, *]; done) | (simp; omega) | omega), (by first | rfl | assumption | (simp [go_sem, jlo, jhi, *]; done) | (simp; omega) | omega), (by first | rfl | assumption | (simp [go_sem, jlo, jhi, *]; done) | (simp; omega) | omega), (by first | rfl | assumption | (simp [go_sem, jlo, jhi, *]; done) | (simp; omega) | omega), (by first | rfl | assumption | (simp [go_sem, jlo, jhi, *]; done) | (simp; omega) | omega), (by first | rfl | assumption | (simp [go_sem, jlo, jhi, *]; done) | (simp; omega) | omega), (by first | rfl | assumption | (simp [go_sem, jlo, jhi, *]; done) | (simp; omega) | omega), (by first | rfl | assumption | (simp [go_sem, jlo, jhi, *]; done) | (simp; omega) | omega), (by repeat' (first | with_reducible (first | exact HW1.out | apply bR | apply bD | apply bN | apply bA | apply bS) | (simp; done) | (simp; omega) | omega))⟩
 case round =>
  obtain ⟨k, hk, rfl, n0, n1, n2, n3, n4, n5, n6, n7, m0, m1, m2, m3, n8, n9, HBr⟩ := hrel
  have HWV := Lib.hid HBr
  clear HBr
  have n11 : w.heap.size + 1 + 1 < wr.heap.size := by omega
  have n10 : ¬ w1.heap.size = wr.heap.size := by omega
  by_cases h : k < 4
  ·have h4 : k = 0 ∨ k = 1 ∨ k = 2 ∨ k = 3 := by omega
   clear h hk
   rcases h4 with rfl | rfl | rfl | rfl
   ·simp only [jlo, jhi] at n0 n1
    go_wp2_with fail
    go_region_with (first | (go_at_call 32; refine (RefOne_exact _ _).mono ?_; rintro e w2 ⟨rfl, rfl⟩) | (go_at_call 34; refine (RefJoin_any _ _ _ _ _).mono ?_; rintro e w2 ⟨rfl, hb⟩; obtain ⟨hc, hf⟩ := bcell hb; have hz := hb.size; (try simp at hz); have y2 : w.heap.size + 1 + 1 < w2.heap.size := (by omega); have y4 : w.heap.size + 1 + 1 + 1 + 1 < w2.heap.size := (by omega); have yc : w1.heap.size < w2.heap.size := (by omega); have hwn : Below w.heap.size w w2 := Below.trans (by repeat' (first | with_reducible exact HWV.out | with_reducible refine Below.drew ?_ | with_reducible refine Below.alloc ?_ ?_ _ | with_reducible refine Below.setCell ?_ ?_ _ | (simp; done) | (simp; omega) | omega)) (hb.mono (by first | omega | simp <;> omega)); clear hb))
    all_goals
     have a0 : w2.cell? ⟨w1.heap.size, 0, none⟩ = some (.int .i64 (P0)) := by rw [hc _ _ (by first | (simp; done) | (simp; omega))]; simp [go_sem, *]; done
     have ra0 : w2.frozen? ⟨w1.heap.size, 0, none⟩ = false := by rw [hf _ _ (by first | (simp; done) | (simp; omega))]; simp [go_sem, *]
     have a1 : w2.cell? ⟨w1.heap.size, 1, none⟩ = some (.int .i64 (P0)) := by rw [hc _ _ (by first | (simp; done) | (simp; omega))]; simp [go_sem, *]; done
     have ra1 : w2.frozen? ⟨w1.heap.size, 1, none⟩ = false := by rw [hf _ _ (by first | (simp; done) | (simp; omega))]; simp [go_sem, *]
     have b0 : w2.cell? ⟨w.heap.size + 1 + 1, 0, none⟩ = some (.int .i64 0) := by rw [hc _ _ (by first | (simp; done) | (simp; omega))]; simp [go_sem, *]; done
     have rb0 : w2.frozen? ⟨w.heap.size + 1 + 1, 0, none⟩ = false := by rw [hf _ _ (by first | (simp; done) | (simp; omega))]; simp [go_sem, *]
     have b1 : w2.cell? ⟨w.heap.size + 1 + 1, 1, none⟩ = some (.int .i64 0) := by rw [hc _ _ (by first | (simp; done) | (simp; omega))]; simp [go_sem, *]; done
     have rb1 : w2.frozen? ⟨w.heap.size + 1 + 1, 1, none⟩ = false := by rw [hf _ _ (by first | (simp; done) | (simp; omega))]; simp [go_sem, *]
     have d0 : w2.cell? ⟨w.heap.size + 1 + 1 + 1 + 1, 0, none⟩ = some (.int .i64 P0) := by rw [hc _ _ (by first | (simp; done) | (simp; omega))]; simp [go_sem, *]; done
     have d1 : w2.cell? ⟨w.heap.size + 1 + 1 + 1 + 1, 1, none⟩ = some (.int .i64 P1) := by rw [hc _ _ (by first | (simp; done) | (simp; omega))]; simp [go_sem, *]; done
     have d2 : w2.cell? ⟨w.heap.size + 1 + 1 + 1 + 1, 2, none⟩ = some (.int .i64 P2) := by rw [hc _ _ (by first | (simp; done) | (simp; omega))]; simp [go_sem, *]; done
     have d3 : w2.cell? ⟨w.heap.size + 1 + 1 + 1 + 1, 3, none⟩ = some (.int .i64 P3) := by rw [hc _ _ (by first | (simp; done) | (simp; omega))]; simp [go_sem, *]; done
     clear hc hf
     go_wp2_with fail
     go_roundw
     case rel => exact ⟨1, by omega, by first | rfl | go_num, (by first | rfl | (simp [go_sem, jlo, jhi, a0, a1, ra0, ra1, b0, b1, rb0, rb1, d0, d1, d2, d3, yc, y2, y4, n10]; done) | (simp; omega) | omega), (by first | rfl | (simp [go_sem, jlo, jhi, a0, a1, ra0, ra1, b0, b1, rb0, rb1, d0, d1, d2, d3, yc, y2, y4, n10]; done) | (simp; omega) | omega), (by first | rfl | (simp [go_sem, jlo, jhi, a0, a1, ra0, ra1, b0, b1, rb0, rb1, d0, d1, d2, d3, yc, y2, y4, n10]; done) | (simp; omega) | omega), (by first | rfl | (simp [go_sem, jlo, jhi, a0, a1, ra0, ra1, b0, b1, rb0, rb1, d0, d1, d2, d3, yc, y2, y4, n10]; done) | (simp; omega) | omega), (by first | rfl | (simp [go_sem, jlo, jhi, a0, a1, ra0, ra1, b0, b1, rb0, rb1, d0, d1, d2, d3, yc, y2, y4, n10]; done) | (simp; omega) | omega), (by first | rfl | (simp [go_sem, jlo, jhi, a0, a1, ra0, ra1, b0, b1, rb0, rb1, d0, d1, d2, d3, yc, y2, y4, n10]; done) | (simp; omega) | omega), (by first | rfl | (simp [go_sem, jlo, jhi, a0, a1, ra0, ra1, b0, b1, rb0, rb1, d0, d1, d2, d3, yc, y2, y4, n10]; done) | (simp; omega) | omega), (by first | rfl | (simp [go_sem, jlo, jhi, a0, a1, ra0, ra1, b0, b1, rb0, rb1, d0, d1, d2, d3, yc, y2, y4, n10]; done) | (simp; omega) | omega), (by first | rfl | (simp [go_sem, jlo, jhi, a0, a1, ra0, ra1, b0, b1, rb0, rb1, d0, d1, d2, d3, yc, y2, y4, n10]; done) | (simp; omega) | omega), (by first | rfl | (simp [go_sem, jlo, jhi, a0, a1, ra0, ra1, b0, b1, rb0, rb1, d0, d1, d2, d3, yc, y2, y4, n10]; done) | (simp; omega) | omega), (by first | rfl | (simp [go_sem, jlo, jhi, a0, a1, ra0, ra1, b0, b1, rb0, rb1, d0, d1, d2, d3, yc, y2, y4, n10]; done) | (simp; omega) | omega), (by first | rfl | (simp [go_sem, jlo, jhi, a0, a1, ra0, ra1, b0, b1, rb0, rb1, d0, d1, d2, d3, yc, y2, y4, n10]; done) | (simp; omega) | omega), (by first | rfl | (simp [go_sem, jlo, jhi, a0, a1, ra0, ra1, b0, b1, rb0, rb1, d0, d1, d2, d3, yc, y2, y4, n10]; done) | (simp; omega) | omega), (by first | rfl | (simp [go_sem, jlo, jhi, a0, a1, ra0, ra1, b0, b1, rb0, rb1, d0, d1, d2, d3, yc, y2, y4, n10]; done) | (simp; omega) | omega), by repeat' (first | with_reducible exact hwn | with_reducible refine Below.drew ?_ | with_reducible refine Below.alloc ?_ ?_ _ | with_reducible refine Below.setCell ?_ ?_ _ | (simp; done) | (simp; omega) | omega)⟩
     case measure => simp [intOf]
   ·simp only [jlo, jhi] at n0 n1
    go_wp2_with fail
    go_region_with (first | (go_at_call 32; refine (RefOne_exact _ _).mono ?_; rintro e w2 ⟨rfl, rfl⟩) | (go_at_call 34; refine (RefJoin_any _ _ _ _ _).mono ?_; rintro e w2 ⟨rfl, hb⟩; obtain ⟨hc, hf⟩ := bcell hb; have hz := hb.size; (try simp at hz); have y2 : w.heap.size + 1 + 1 < w2.heap.size := (by omega); have y4 : w.heap.size + 1 + 1 + 1 + 1 < w2.heap.size := (by omega); have yc : w1.heap.size < w2.heap.size := (by omega); have hwn : Below w.heap.size w w2 := Below.trans (by repeat' (first | with_reducible exact HWV.out | with_reducible refine Below.drew ?_ | with_reducible refine Below.alloc ?_ ?_ _ | with_reducible refine Below.setCell ?_ ?_ _ | (simp; done) | (simp; omega) | omega)) (hb.mono (by first | omega | simp <;> omega)); clear hb))
    all_goals
     have a0 : w2.cell? ⟨w1.heap.size, 0, none⟩ = some (.int .i64 (P0)) := by rw [hc _ _ (by first | (simp; done) | (simp; omega))]; simp [go_sem, *]; done
     have ra0 : w2.frozen? ⟨w1.heap.size, 0, none⟩ = false := by rw [hf _ _ (by first | (simp; done) | (simp; omega))]; simp [go_sem, *]
     have a1 : w2.cell? ⟨w1.heap.size, 1, none⟩ = some (.int .i64 (P0)) := by rw [hc _ _ (by first | (simp; done) | (simp; omega))]; simp [go_sem, *]; done
     have ra1 : w2.frozen? ⟨w1.heap.size, 1, none⟩ = false := by rw [hf _ _ (by first | (simp; done) | (simp; omega))]; simp [go_sem, *]
     have b0 : w2.cell? ⟨w.heap.size + 1 + 1, 0, none⟩ = some (.int .i64 0) := by rw [hc _ _ (by first | (simp; done) | (simp; omega))]; simp [go_sem, *]; done
     have rb0 : w2.frozen? ⟨w.heap.size + 1 + 1, 0, none⟩ = false := by rw [hf _ _ (by first | (simp; done) | (simp; omega))]; simp [go_sem, *]
     have b1 : w2.cell? ⟨w.heap.size + 1 + 1, 1, none⟩ = some (.int .i64 0) := by rw [hc _ _ (by first | (simp; done) | (simp; omega))]; simp [go_sem, *]; done
     have rb1 : w2.frozen? ⟨w.heap.size + 1 + 1, 1, none⟩ = false := by rw [hf _ _ (by first | (simp; done) | (simp; omega))]; simp [go_sem, *]
     have d0 : w2.cell? ⟨w.heap.size + 1 + 1 + 1 + 1, 0, none⟩ = some (.int .i64 P0) := by rw [hc _ _ (by first | (simp; done) | (simp; omega))]; simp [go_sem, *]; done
     have d1 : w2.cell? ⟨w.heap.size + 1 + 1 + 1 + 1, 1, none⟩ = some (.int .i64 P1) := by rw [hc _ _ (by first | (simp; done) | (simp; omega))]; simp [go_sem, *]; done
     have d2 : w2.cell? ⟨w.heap.size + 1 + 1 + 1 + 1, 2, none⟩ = some (.int .i64 P2) := by rw [hc _ _ (by first | (simp; done) | (simp; omega))]; simp [go_sem, *]; done
     have d3 : w2.cell? ⟨w.heap.size + 1 + 1 + 1 + 1, 3, none⟩ = some (.int .i64 P3) := by rw [hc _ _ (by first | (simp; done) | (simp; omega))]; simp [go_sem, *]; done
     clear hc hf
     go_wp2_with fail
     go_roundw
     case rel => exact ⟨2, by omega, by first | rfl | go_num, (by first | rfl | (simp [go_sem, jlo, jhi, a0, a1, ra0, ra1, b0, b1, rb0, rb1, d0, d1, d2, d3, yc, y2, y4, n10]; done) | (simp; omega) | omega), (by first | rfl | (simp [go_sem, jlo, jhi, a0, a1, ra0, ra1, b0, b1, rb0, rb1, d0, d1, d2, d3, yc, y2, y4, n10]; done) | (simp; omega) | omega), (by first | rfl | (simp [go_sem, jlo, jhi, a0, a1, ra0, ra1, b0, b1, rb0, rb1, d0, d1, d2, d3, yc, y2, y4, n10]; done) | (simp; omega) | omega), (by first | rfl | (simp [go_sem, jlo, jhi, a0, a1, ra0, ra1, b0, b1, rb0, rb1, d0, d1, d2, d3, yc, y2, y4, n10]; done) | (simp; omega) | omega), (by first | rfl | (simp [go_sem, jlo, jhi, a0, a1, ra0, ra1, b0, b1, rb0, rb1, d0, d1, d2, d3, yc, y2, y4, n10]; done) | (simp; omega) | omega), (by first | rfl | (simp [go_sem, jlo, jhi, a0, a1, ra0, ra1, b0, b1, rb0, rb1, d0, d1, d2, d3, yc, y2, y4, n10]; done) | (simp; omega) | omega), (by first | rfl | (simp [go_sem, jlo, jhi, a0, a1, ra0, ra1, b0, b1, rb0, rb1, d0, d1, d2, d3, yc, y2, y4, n10]; done) | (simp; omega) | omega), (by first | rfl | (simp [go_sem, jlo, jhi, a0, a1, ra0, ra1, b0, b1, rb0, rb1, d0, d1, d2, d3, yc, y2, y4, n10]; done) | (simp; omega) | omega), (by first | rfl | (simp [go_sem, jlo, jhi, a0, a1, ra0, ra1, b0, b1, rb0, rb1, d0, d1, d2, d3, yc, y2, y4, n10]; done) | (simp; omega) | omega), (by first | rfl | (simp [go_sem, jlo, jhi, a0, a1, ra0, ra1, b0, b1, rb0, rb1, d0, d1, d2, d3, yc, y2, y4, n10]; done) | (simp; omega) | omega), (by first | rfl | (simp [go_sem, jlo, jhi, a0, a1, ra0, ra1, b0, b1, rb0, rb1, d0, d1, d2, d3, yc, y2, y4, n10]; done) | (simp; omega) | omega), (by first | rfl | (simp [go_sem, jlo, jhi, a0, a1, ra0, ra1, b0, b1, rb0, rb1, d0, d1, d2, d3, yc, y2, y4, n10]; done) | (simp; omega) | omega), (by first | rfl | (simp [go_sem, jlo, jhi, a0, a1, ra0, ra1, b0, b1, rb0, rb1, d0, d1, d2, d3, yc, y2, y4, n10]; done) | (simp; omega) | omega), (by first | rfl | (simp [go_sem, jlo, jhi, a0, a1, ra0, ra1, b0, b1, rb0, rb1, d0, d1, d2, d3, yc, y2, y4, n10]; done) | (simp; omega) | omega), by repeat' (first | with_reducible exact hwn | with_reducible refine Below.drew ?_ | with_reducible refine Below.alloc ?_ ?_ _ | with_reducible refine Below.setCell ?_ ?_ _ | (simp; done) | (simp; omega) | omega)⟩
     case measure => simp [intOf]
   ·simp only [jlo, jhi] at n0 n1
    go_wp2_with fail
    go_region_with (first | (go_at_call 32; refine (RefOne_exact _ _).mono ?_; rintro e w2 ⟨rfl, rfl⟩) | (go_at_call 34; refine (RefJoin_any _ _ _ _ _).mono ?_; rintro e w2 ⟨rfl, hb⟩; obtain ⟨hc, hf⟩ := bcell hb; have hz := hb.size; (try simp at hz); have y2 : w.heap.size + 1 + 1 < w2.heap.size := (by omega); have y4 : w.heap.size + 1 + 1 + 1 + 1 < w2.heap.size := (by omega); have yc : w1.heap.size < w2.heap.size := (by omega); have hwn : Below w.heap.size w w2 := Below.trans (by repeat' (first | with_reducible exact HWV.out | with_reducible refine Below.drew ?_ | with_reducible refine Below.alloc ?_ ?_ _ | with_reducible refine Below.setCell ?_ ?_ _ | (simp; done) | (simp; omega) | omega)) (hb.mono (by first | omega | simp <;> omega)); clear hb))
    all_goals
     have a0 : w2.cell? ⟨w1.heap.size, 0, none⟩ = some (.int .i64 (min (P0) (P1))) := by rw [hc _ _ (by first | (simp; done) | (simp; omega))]; simp [go_sem, *]; done
     have ra0 : w2.frozen? ⟨w1.heap.size, 0, none⟩ = false := by rw [hf _ _ (by first | (simp; done) | (simp; omega))]; simp [go_sem, *]
     have a1 : w2.cell? ⟨w1.heap.size, 1, none⟩ = some (.int .i64 (max (P0) (P1))) := by rw [hc _ _ (by first | (simp; done) | (simp; omega))]; simp [go_sem, *]; done
     have ra1 : w2.frozen? ⟨w1.heap.size, 1, none⟩ = false := by rw [hf _ _ (by first | (simp; done) | (simp; omega))]; simp [go_sem, *]
     have b0 : w2.cell? ⟨w.heap.size + 1 + 1, 0, none⟩ = some (.int .i64 0) := by rw [hc _ _ (by first | (simp; done) | (simp; omega))]; simp [go_sem, *]; done
     have rb0 : w2.frozen? ⟨w.heap.size + 1 + 1, 0, none⟩ = false := by rw [hf _ _ (by first | (simp; done) | (simp; omega))]; simp [go_sem, *]
     have b1 : w2.cell? ⟨w.heap.size + 1 + 1, 1, none⟩ = some (.int .i64 0) := by rw [hc _ _ (by first | (simp; done) | (simp; omega))]; simp [go_sem, *]; done
     have rb1 : w2.frozen? ⟨w.heap.size + 1 + 1, 1, none⟩ = false := by rw [hf _ _ (by first | (simp; done) | (simp; omega))]; simp [go_sem, *]
     have d0 : w2.cell? ⟨w.heap.size + 1 + 1 + 1 + 1, 0, none⟩ = some (.int .i64 P0) := by rw [hc _ _ (by first | (simp; done) | (simp; omega))]; simp [go_sem, *]; done
     have d1 : w2.cell? ⟨w.heap.size + 1 + 1 + 1 + 1, 1, none⟩ = some (.int .i64 P1) := by rw [hc _ _ (by first | (simp; done) | (simp; omega))]; simp [go_sem, *]; done
     have d2 : w2.cell? ⟨w.heap.size + 1 + 1 + 1 + 1, 2, none⟩ = some (.int .i64 P2) := by rw [hc _ _ (by first | (simp; done) | (simp; omega))]; simp [go_sem, *]; done
     have d3 : w2.cell? ⟨w.heap.size + 1 + 1 + 1 + 1, 3, none⟩ = some (.int .i64 P3) := by rw [hc _ _ (by first | (simp; done) | (simp; omega))]; simp [go_sem, *]; done
     clear hc hf
     go_wp2_with fail
     go_roundw
     case rel => exact ⟨3, by omega, by first | rfl | go_num, (by first | rfl | (simp [go_sem, jlo, jhi, a0, a1, ra0, ra1, b0, b1, rb0, rb1, d0, d1, d2, d3, yc, y2, y4, n10]; done) | (simp; omega) | omega), (by first | rfl | (simp [go_sem, jlo, jhi, a0, a1, ra0, ra1, b0, b1, rb0, rb1, d0, d1, d2, d3, yc, y2, y4, n10]; done) | (simp; omega) | omega), (by first | rfl | (simp [go_sem, jlo, jhi, a0, a1, ra0, ra1, b0, b1, rb0, rb1, d0, d1, d2, d3, yc, y2, y4, n10]; done) | (simp; omega) | omega), (by first | rfl | (simp [go_sem, jlo, jhi, a0, a1, ra0, ra1, b0, b1, rb0, rb1, d0, d1, d2, d3, yc, y2, y4, n10]; done) | (simp; omega) | omega), (by first | rfl | (simp [go_sem, jlo, jhi, a0, a1, ra0, ra1, b0, b1, rb0, rb1, d0, d1, d2, d3, yc, y2, y4, n10]; done) | (simp; omega) | omega), (by first | rfl | (simp [go_sem, jlo, jhi, a0, a1, ra0, ra1, b0, b1, rb0, rb1, d0, d1, d2, d3, yc, y2, y4, n10]; done) | (simp; omega) | omega), (by first | rfl | (simp [go_sem, jlo, jhi, a0, a1, ra0, ra1, b0, b1, rb0, rb1, d0, d1, d2, d3, yc, y2, y4, n10]; done) | (simp; omega) | omega), (by first | rfl | (simp [go_sem, jlo, jhi, a0, a1, ra0, ra1, b0, b1, rb0, rb1, d0, d1, d2, d3, yc, y2, y4, n10]; done) | (simp; omega) | omega), (by first | rfl | (simp [go_sem, jlo, jhi, a0, a1, ra0, ra1, b0, b1, rb0, rb1, d0, d1, d2, d3, yc, y2, y4, n10]; done) | (simp; omega) | omega), (by first | rfl | (simp [go_sem, jlo, jhi, a0, a1, ra0, ra1, b0, b1, rb0, rb1, d0, d1, d2, d3, yc, y2, y4, n10]; done) | (simp; omega) | omega), (by first | rfl | (simp [go_sem, jlo, jhi, a0, a1, ra0, ra1, b0, b1, rb0, rb1, d0, d1, d2, d3, yc, y2, y4, n10]; done) | (simp; omega) | omega), (by first | rfl | (simp [go_sem, jlo, jhi, a0, a1, ra0, ra1, b0, b1, rb0, rb1, d0, d1, d2, d3, yc, y2, y4, n10]; done) | (simp; omega) | omega), (by first | rfl | (simp [go_sem, jlo, jhi, a0, a1, ra0, ra1, b0, b1, rb0, rb1, d0, d1, d2, d3, yc, y2, y4, n10]; done) | (simp; omega) | omega), (by first | rfl | (simp [go_sem, jlo, jhi, a0, a1, ra0, ra1, b0, b1, rb0, rb1, d0, d1, d2, d3, yc, y2, y4, n10]; done) | (simp; omega) | omega), by repeat' (first | with_reducible exact hwn | with_reducible refine Below.drew ?_ | with_reducible refine Below.alloc ?_ ?_ _ | with_reducible refine Below.setCell ?_ ?_ _ | (simp; done) | (simp; omega) | omega)⟩
     case measure => simp [intOf]
   ·simp only [jlo, jhi] at n0 n1
    go_wp2_with fail
    go_region_with (first | (go_at_call 32; refine (RefOne_exact _ _).mono ?_; rintro e w2 ⟨rfl, rfl⟩) | (go_at_call 34; refine (RefJoin_any _ _ _ _ _).mono ?_; rintro e w2 ⟨rfl, hb⟩; obtain ⟨hc, hf⟩ := bcell hb; have hz := hb.size; (try simp at hz); have y2 : w.heap.size + 1 + 1 < w2.heap.size := (by omega); have y4 : w.heap.size + 1 + 1 + 1 + 1 < w2.heap.size := (by omega); have yc : w1.heap.size < w2.heap.size := (by omega); have hwn : Below w.heap.size w w2 := Below.trans (by repeat' (first | with_reducible exact HWV.out | with_reducible refine Below.drew ?_ | with_reducible refine Below.alloc ?_ ?_ _ | with_reducible refine Below.setCell ?_ ?_ _ | (simp; done) | (simp; omega) | omega)) (hb.mono (by first | omega | simp <;> omega)); clear hb))
    all_goals
     have a0 : w2.cell? ⟨w1.heap.size, 0, none⟩ = some (.int .i64 (min (P0) (min (P1) (P2)))) := by rw [hc _ _ (by first | (simp; done) | (simp; omega))]; simp [go_sem, *]; done
     have ra0 : w2.frozen? ⟨w1.heap.size, 0, none⟩ = false := by rw [hf _ _ (by first | (simp; done) | (simp; omega))]; simp [go_sem, *]
     have a1 : w2.cell? ⟨w1.heap.size, 1, none⟩ = some (.int .i64 (max (P0) (max (P1) (P2)))) := by rw [hc _ _ (by first | (simp; done) | (simp; omega))]; simp [go_sem, *]; done
     have ra1 : w2.frozen? ⟨w1.heap.size, 1, none⟩ = false := by rw [hf _ _ (by first | (simp; done) | (simp; omega))]; simp [go_sem, *]
     have b0 : w2.cell? ⟨w.heap.size + 1 + 1, 0, none⟩ = some (.int .i64 0) := by rw [hc _ _ (by first | (simp; done) | (simp; omega))]; simp [go_sem, *]; done
     have rb0 : w2.frozen? ⟨w.heap.size + 1 + 1, 0, none⟩ = false := by rw [hf _ _ (by first | (simp; done) | (simp; omega))]; simp [go_sem, *]
     have b1 : w2.cell? ⟨w.heap.size + 1 + 1, 1, none⟩ = some (.int .i64 0) := by rw [hc _ _ (by first | (simp; done) | (simp; omega))]; simp [go_sem, *]; done
     have rb1 : w2.frozen? ⟨w.heap.size + 1 + 1, 1, none⟩ = false := by rw [hf _ _ (by first | (simp; done) | (simp; omega))]; simp [go_sem, *]
     have d0 : w2.cell? ⟨w.heap.size + 1 + 1 + 1 + 1, 0, none⟩ = some (.int .i64 P0) := by rw [hc _ _ (by first | (simp; done) | (simp; omega))]; simp [go_sem, *]; done
     have d1 : w2.cell? ⟨w.heap.size + 1 + 1 + 1 + 1, 1, none⟩ = some (.int .i64 P1) := by rw [hc _ _ (by first | (simp; done) | (simp; omega))]; simp [go_sem, *]; done
     have d2 : w2.cell? ⟨w.heap.size + 1 + 1 + 1 + 1, 2, none⟩ = some (.int .i64 P2) := by rw [hc _ _ (by first | (simp; done) | (simp; omega))]; simp [go_sem, *]; done
     have d3 : w2.cell? ⟨w.heap.size + 1 + 1 + 1 + 1, 3, none⟩ = some (.int .i64 P3) := by rw [hc _ _ (by first | (simp; done) | (simp; omega))]; simp [go_sem, *]; done
     clear hc hf
     go_wp2_with fail
     go_roundw
     case rel => exact ⟨4, by omega, by first | rfl | go_num, (by first | rfl | (simp [go_sem, jlo, jhi, a0, a1, ra0, ra1, b0, b1, rb0, rb1, d0, d1, d2, d3, yc, y2, y4, n10]; done) | (simp; omega) | omega), (by first | rfl | (simp [go_sem, jlo, jhi, a0, a1, ra0, ra1, b0, b1, rb0, rb1, d0, d1, d2, d3, yc, y2, y4, n10]; done) | (simp; omega) | omega), (by first | rfl | (simp [go_sem, jlo, jhi, a0, a1, ra0, ra1, b0, b1, rb0, rb1, d0, d1, d2, d3, yc, y2, y4, n10]; done) | (simp; omega) | omega), (by first | rfl | (simp [go_sem, jlo, jhi, a0, a1, ra0, ra1, b0, b1, rb0, rb1, d0, d1, d2, d3, yc, y2, y4, n10]; done) | (simp; omega) | omega), (by first | rfl | (simp [go_sem, jlo, jhi, a0, a1, ra0, ra1, b0, b1, rb0, rb1, d0, d1, d2, d3, yc, y2, y4, n10]; done) | (simp; omega) | omega), (by first | rfl | (simp [go_sem, jlo, jhi, a0, a1, ra0, ra1, b0, b1, rb0, rb1, d0, d1, d2, d3, yc, y2, y4, n10]; done) | (simp; omega) | omega), (by first | rfl | (simp [go_sem, jlo, jhi, a0, a1, ra0, ra1, b0, b1, rb0, rb1, d0, d1, d2, d3, yc, y2, y4, n10]; done) | (simp; omega) | omega), (by first | rfl | (simp [go_sem, jlo, jhi, a0, a1, ra0, ra1, b0, b1, rb0, rb1, d0, d1, d2, d3, yc, y2, y4, n10]; done) | (simp; omega) | omega), (by first | rfl | (simp [go_sem, jlo, jhi, a0, a1, ra0, ra1, b0, b1, rb0, rb1, d0, d1, d2, d3, yc, y2, y4, n10]; done) | (simp; omega) | omega), (by first | rfl | (simp [go_sem, jlo, jhi, a0, a1, ra0, ra1, b0, b1, rb0, rb1, d0, d1, d2, d3, yc, y2, y4, n10]; done) | (simp; omega) | omega), (by first | rfl | (simp [go_sem, jlo, jhi, a0, a1, ra0, ra1, b0, b1, rb0, rb1, d0, d1, d2, d3, yc, y2, y4, n10]; done) | (simp; omega) | omega), (by first | rfl | (simp [go_sem, jlo, jhi, a0, a1, ra0, ra1, b0, b1, rb0, rb1, d0, d1, d2, d3, yc, y2, y4, n10]; done) | (simp; omega) | omega), (by first | rfl | (simp [go_sem, jlo, jhi, a0, a1, ra0, ra1, b0, b1, rb0, rb1, d0, d1, d2, d3, yc, y2, y4, n10]; done) | (simp; omega) | omega), (by first | rfl | (simp [go_sem, jlo, jhi, a0, a1, ra0, ra1, b0, b1, rb0, rb1, d0, d1, d2, d3, yc, y2, y4, n10]; done) | (simp; omega) | omega), by repeat' (first | with_reducible exact hwn | with_reducible refine Below.drew ?_ | with_reducible refine Below.alloc ?_ ?_ _ | with_reducible refine Below.setCell ?_ ?_ _ | (simp; done) | (simp; omega) | omega)⟩
     case measure => simp [intOf]
  ·obtain rfl : k = 4 := by omega
   simp only [jlo, jhi] at n0 n1
   clear h hk
   go_wp2_with fail
   refine bodyPost_ret (v := .agg #[.int .i64 (min (P0) (min (P1) (min (P2) (P3)))), .int .i64 (max (P0) (max (P1) (max (P2) (P3))))]) (by simp [results, Tryd.results79, go_sem, *]) rfl ⟨by rw [E0.out, E1.out, E2.out, E3.out], ?_⟩
   repeat' (first | with_reducible exact HWV.out | with_reducible refine Below.drew ?_ | with_reducible refine Below.alloc ?_ ?_ _ | with_reducible refine Below.setCell ?_ ?_ _ | (simp; done) | (simp; omega) | omega)

end Go.Proofs.YtfpoicdfkjbknaaDoor.W
