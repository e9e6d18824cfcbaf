/- The walks of the statement's own small functions: row, pick, bounded. -/
import Derived.Test.YtfmcapmaebfppaaWalkBound5
import Derived.Test.YtfmcapmaebfppaaWalkBound3
import Derived.WalkLawsBesides
namespace Go.Proofs.Ytfmcapmaebfppaa.W
open Go.RowKit Go.Proofs.Ytfmcapmaebfppaa.P
set_option linter.unusedSimpArgs false
set_option linter.unusedVariables false

set_option maxRecDepth 100000 in
set_option maxHeartbeats 4000000 in
theorem row_any (l g n : Int) (w : World) :
    Calls Try.prog 16 #[.agg #[.int .i64 l, .int .i64 g], .int .i64 n] w fun e w' => e = .returned (.agg #[.int .i64 (min l (min g n)), .int .i64 (max l (max g n))]) ∧ Below w.heap.size w w' := by
  have HW0 := Lib.hid (Below.refl w.heap.size w)
  by_cases c1 : g < l <;> by_cases c2 : n < l <;> by_cases c3 : n < g <;> by_cases c4 : l < g <;> by_cases c5 : l < n <;> by_cases c6 : g < n
  all_goals (first | (exfalso; omega) | skip)
  all_goals
    go_enter Try.func16, Try.ntmps16
    go_wp2_with fail
    exact bodyPost_ret (v := .agg #[.int .i64 (min l (min g n)), .int .i64 (max l (max g n))]) (by simp [results, Try.results16, go_sem]; omega) rfl ⟨rfl, (by repeat' (first | with_reducible exact HW0.out | with_reducible exact Below.refl _ _ | with_reducible refine Below.drew ?_ | with_reducible refine Below.drewN' ?_ _ | with_reducible refine Below.alloc ?_ ?_ _ | with_reducible refine Below.setCell ?_ ?_ _ | (simp; done) | (simp; omega) | omega))⟩

set_option maxRecDepth 100000 in
set_option maxHeartbeats 4000000 in
theorem pick_any (a : Int) (w : World) :
    Calls Try.prog 19 #[.int .i64 a, .int .i64 10] w fun e w' => e = .returned (.int .i64 (u a % 10)) ∧ w = w' := by
  have e1 := wrap_u64 a
  have b1 := u_nonneg a
  have b2 : u a ≤ 18446744073709551615 := by have := u_lt a; omega
  go_enter Try.func19, Try.ntmps19
  go_wp2_with fail
  go_ret
  exact ⟨rfl, rfl⟩

set_option maxRecDepth 100000 in
set_option maxHeartbeats 4000000 in
theorem bounded_any (w : World) :
    Calls Try.prog 15 #[] w fun e w' => e = .returned (.bool true) ∧ Below w.heap.size w w' := by
  have HW0 := Lib.hid (Below.refl w.heap.size w)
  have h1 := Lib.hid (show bdoes 2 ⟨1, 2⟩ ⟨2, 3⟩ = ⟨3, 5⟩ by decide +kernel)
  have h2 := Lib.hid (show bnarrow 23 ⟨0, 9⟩ ⟨2, 5⟩ = (⟨0, 4⟩, ⟨2, 5⟩, true) by decide +kernel)
  go_enter Try.func15, Try.ntmps15
  go_wp2_with fail
  refine (BDoes_any _ _ _ _ _ (by decide) (by decide) (by decide) (by decide) (by decide) (by decide) _).mono ?_
  rw [h1.out]
  (rintro e w1 ⟨rfl, hb⟩; obtain ⟨hc1, hf1⟩ := bcell hb; have hz1 := hb.size; (try simp at hz1); have HW1 := Lib.hid (show Below w.heap.size w w1 from Below.trans (by repeat' (first | with_reducible exact HW0.out | with_reducible exact Below.refl _ _ | with_reducible refine Below.drew ?_ | with_reducible refine Below.drewN' ?_ _ | with_reducible refine Below.alloc ?_ ?_ _ | with_reducible refine Below.setCell ?_ ?_ _ | (simp; done) | (simp; omega) | omega)) (hb.mono (by first | (simp; done) | (simp; omega) | omega))); clear hb; (try have z10 : w.heap.size < w1.heap.size := by omega); (try have z11 : w.heap.size + 1 < w1.heap.size := by omega); (try have z12 : w.heap.size + 1 + 1 < w1.heap.size := by omega); (try have z13 : w.heap.size + 1 + 1 + 1 < w1.heap.size := by omega); (try have z14 : w.heap.size + 1 + 1 + 1 + 1 < w1.heap.size := by omega); (try have z15 : w.heap.size + 1 + 1 + 1 + 1 + 1 < w1.heap.size := by omega); (try have z16 : w.heap.size + 1 + 1 + 1 + 1 + 1 + 1 < w1.heap.size := by omega); (try have z17 : w.heap.size + 1 + 1 + 1 + 1 + 1 + 1 + 1 < w1.heap.size := by omega))
  go_wp2_with fail
  refine (Narrow_any _ _ _ _ _ (by decide) (by decide) (by decide) (by decide) _).mono ?_
  rw [h2.out]
  (rintro e w2 ⟨rfl, hb⟩; obtain ⟨hc2, hf2⟩ := bcell hb; have hz2 := hb.size; (try simp at hz2); have HW2 := Lib.hid (show Below w.heap.size w w2 from Below.trans (by repeat' (first | with_reducible exact HW1.out | with_reducible exact Below.refl _ _ | with_reducible refine Below.drew ?_ | with_reducible refine Below.drewN' ?_ _ | with_reducible refine Below.alloc ?_ ?_ _ | with_reducible refine Below.setCell ?_ ?_ _ | (simp; done) | (simp; omega) | omega)) (hb.mono (by first | (simp; done) | (simp; omega) | omega))); clear hb; (try have z20 : w.heap.size < w2.heap.size := by omega); (try have z21 : w.heap.size + 1 < w2.heap.size := by omega); (try have z22 : w.heap.size + 1 + 1 < w2.heap.size := by omega); (try have z23 : w.heap.size + 1 + 1 + 1 < w2.heap.size := by omega); (try have z24 : w.heap.size + 1 + 1 + 1 + 1 < w2.heap.size := by omega); (try have z25 : w.heap.size + 1 + 1 + 1 + 1 + 1 < w2.heap.size := by omega); (try have z26 : w.heap.size + 1 + 1 + 1 + 1 + 1 + 1 < w2.heap.size := by omega); (try have z27 : w.heap.size + 1 + 1 + 1 + 1 + 1 + 1 + 1 < w2.heap.size := by omega))
  have z2c : w1.heap.size < w2.heap.size := by omega
  have c0 : w2.cell? ⟨w1.heap.size, 0, none⟩ = some (.int .i64 3) := by simp [go_sem, hc2]
  have c1 : w2.cell? ⟨w1.heap.size, 1, none⟩ = some (.int .i64 5) := by simp [go_sem, hc2]
  go_wp2_with fail
  go_ret
  refine ⟨?_, (by repeat' (first | with_reducible exact HW2.out | with_reducible exact Below.refl _ _ | with_reducible refine Below.drew ?_ | with_reducible refine Below.drewN' ?_ _ | with_reducible refine Below.alloc ?_ ?_ _ | with_reducible refine Below.setCell ?_ ?_ _ | (simp; done) | (simp; omega) | omega))⟩
  first | rfl | (refine ret_bool ?_; simp; done)

end Go.Proofs.Ytfmcapmaebfppaa.W
