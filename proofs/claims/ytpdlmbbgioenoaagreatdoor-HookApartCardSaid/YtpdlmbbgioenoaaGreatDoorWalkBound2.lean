/- A part of the proof; each theorem states its conditions. -/
import Derived.Test.YtpdlmbbgioenoaaGreatDoorWalkBound
import Derived.RegionTactic
import Derived.Deep.RegionHeld3
set_option linter.unusedSimpArgs false
set_option linter.unusedVariables false
set_option maxRecDepth 100000
namespace Go.Proofs.YtpdlmbbgioenoaaGreatDoor.W
open Go.RowKit Go.Proofs.YtpdlmbbgioenoaaGreatDoor.P
set_option maxHeartbeats 4000000 in
theorem order_false (al ah bl bh : Int) (ib : In64 bl) (ia : In64 ah) (w : World) :
  Calls Tryz.prog 185 #[.agg #[.int .i64 al, .int .i64 ah], .agg #[.int .i64 bl, .int .i64 bh], .bool false] w fun e w' =>
   e = .returned (.tuple #[.agg #[.int .i64 (border ⟨al, ah⟩ ⟨bl, bh⟩ false).1.lo, .int .i64 (border ⟨al, ah⟩ ⟨bl, bh⟩ false).1.hi], .agg #[.int .i64 (border ⟨al, ah⟩ ⟨bl, bh⟩ false).2.1.lo, .int .i64 (border ⟨al, ah⟩ ⟨bl, bh⟩ false).2.1.hi], .bool (border ⟨al, ah⟩ ⟨bl, bh⟩ false).2.2]) ∧ Below w.heap.size w w' := by
 by_cases hx : bl = 9223372036854775807 ∨ ah = -9223372036854775808
 ·have e : border ⟨al, ah⟩ ⟨bl, bh⟩ false = (bnil, bnil, false) := by unfold border; rw [if_pos ⟨rfl, hx⟩]
  rw [e]
  clear e
  have HW0 := Lib.hid (Below.refl w.heap.size w)
  by_cases hy : bl = 9223372036854775807
  ·have b5 : (bl == 9223372036854775807) = true := by simp [hy]
   clear hx hy ia ib
   go_enter Tryz.func185, Tryz.ntmps185
   go_wp2_with fail
   go_quiet (fail)
   go_wp2_with fail
   exact bodyPost_ret (v := .tuple #[.agg #[.int .i64 0, .int .i64 0], .agg #[.int .i64 0, .int .i64 0], .bool false]) (by simp [results, Tryz.results185, go_sem]) rfl ⟨rfl, (by repeat' (first | with_reducible (first | exact HW0.out | apply bR | apply bD | apply bN | apply bA | apply bS) | (simp; done) | (simp; omega) | omega))⟩
  ·have b5 : (bl == 9223372036854775807) = false := by simp [hy]
   have b6 : (ah == -9223372036854775808) = true := by simp; omega
   clear hx hy ia ib
   go_enter Tryz.func185, Tryz.ntmps185
   go_wp2_with fail
   go_quiet (fail)
   go_wp2_with fail
   exact bodyPost_ret (v := .tuple #[.agg #[.int .i64 0, .int .i64 0], .agg #[.int .i64 0, .int .i64 0], .bool false]) (by simp [results, Tryz.results185, go_sem]) rfl ⟨rfl, (by repeat' (first | with_reducible (first | exact HW0.out | apply bR | apply bD | apply bN | apply bA | apply bS) | (simp; done) | (simp; omega) | omega))⟩
 ·have e : border ⟨al, ah⟩ ⟨bl, bh⟩ false = if !(bmeet ⟨al, ah⟩ ⟨bl + 1, 9223372036854775807⟩).2 || !(bmeet ⟨bl, bh⟩ ⟨-9223372036854775808, ah - 1⟩).2 then (bnil, bnil, false) else ((bmeet ⟨al, ah⟩ ⟨bl + 1, 9223372036854775807⟩).1, (bmeet ⟨bl, bh⟩ ⟨-9223372036854775808, ah - 1⟩).1, true) := by
   unfold border; rw [if_neg (by simpa using hx)]; rfl
  rw [e]
  clear e
  have b1 : bl + 1 ≤ 9223372036854775807 := by unfold In64 at ib; omega
  have b2 : -9223372036854775808 ≤ bl + 1 := by unfold In64 at ib; omega
  have b3 : -9223372036854775808 ≤ ah - 1 := by unfold In64 at ia; omega
  have b4 : ah - 1 ≤ 9223372036854775807 := by unfold In64 at ia; omega
  have b5 : (bl == 9223372036854775807) = false := by simp; omega
  have b6 : (ah == -9223372036854775808) = false := by simp; omega
  clear ia ib hx
  generalize hm1 : bmeet ⟨al, ah⟩ ⟨bl + 1, 9223372036854775807⟩ = m1
  generalize hm2 : bmeet ⟨bl, bh⟩ ⟨-9223372036854775808, ah - 1⟩ = m2
  have HM1 := Lib.hid hm1
  have HM2 := Lib.hid hm2
  clear hm1 hm2
  obtain ⟨⟨m1l, m1h⟩, m1b⟩ := m1
  obtain ⟨⟨m2l, m2h⟩, m2b⟩ := m2
  have HW0 := Lib.hid (Below.refl w.heap.size w)
  cases m1b <;> cases m2b
  all_goals
   go_enter Tryz.func185, Tryz.ntmps185
   go_wp2_with fail
   go_quiet (fail)
   go_wp2_with fail
   refine (Meet_any _ _ _ _ _).mono ?_
   rw [HM1.out]
   (rintro e w1 ⟨rfl, hb⟩; obtain ⟨hc1, hf1⟩ := bcell hb; have hz1 := hb.size; (try simp at hz1); have HW1 := Lib.hid (show Below w.heap.size w w1 from Below.trans (by repeat' (first | with_reducible (first | exact HW0.out | apply bR | apply bD | apply bN | apply bA | apply bS) | (simp; done) | (simp; omega) | omega)) (hb.mono (by first | omega | simp <;> omega))); clear hb; (try have z10 : w.heap.size < w1.heap.size := by omega); (try have z11 : w.heap.size + 1 < w1.heap.size := by omega); (try have z12 : w.heap.size + 1 + 1 < w1.heap.size := by omega); (try have z13 : w.heap.size + 1 + 1 + 1 < w1.heap.size := by omega); (try have z14 : w.heap.size + 1 + 1 + 1 + 1 < w1.heap.size := by omega))
   have c1_0_0 : w1.cell? ⟨w.heap.size, 0, none⟩ = some (.int .i64 (al)) := by simp [go_sem, hc1]
   have r1_0_0 : w1.frozen? ⟨w.heap.size, 0, none⟩ = false := by simp [go_sem, hf1]
   have c1_0_1 : w1.cell? ⟨w.heap.size, 1, none⟩ = some (.int .i64 (ah)) := by simp [go_sem, hc1]
   have r1_0_1 : w1.frozen? ⟨w.heap.size, 1, none⟩ = false := by simp [go_sem, hf1]
   have c1_1_0 : w1.cell? ⟨w.heap.size + 1, 0, none⟩ = some (.int .i64 (bl)) := by simp [go_sem, hc1]
   have r1_1_0 : w1.frozen? ⟨w.heap.size + 1, 0, none⟩ = false := by simp [go_sem, hf1]
   have c1_1_1 : w1.cell? ⟨w.heap.size + 1, 1, none⟩ = some (.int .i64 (bh)) := by simp [go_sem, hc1]
   have r1_1_1 : w1.frozen? ⟨w.heap.size + 1, 1, none⟩ = false := by simp [go_sem, hf1]
   have c1_2_0 : w1.cell? ⟨w.heap.size + 1 + 1, 0, none⟩ = some (.int .i64 (0)) := by simp [go_sem, hc1]
   have r1_2_0 : w1.frozen? ⟨w.heap.size + 1 + 1, 0, none⟩ = false := by simp [go_sem, hf1]
   have c1_2_1 : w1.cell? ⟨w.heap.size + 1 + 1, 1, none⟩ = some (.int .i64 (0)) := by simp [go_sem, hc1]
   have r1_2_1 : w1.frozen? ⟨w.heap.size + 1 + 1, 1, none⟩ = false := by simp [go_sem, hf1]
   have c1_3_0 : w1.cell? ⟨w.heap.size + 1 + 1 + 1, 0, none⟩ = some (.int .i64 (0)) := by simp [go_sem, hc1]
   have r1_3_0 : w1.frozen? ⟨w.heap.size + 1 + 1 + 1, 0, none⟩ = false := by simp [go_sem, hf1]
   have c1_3_1 : w1.cell? ⟨w.heap.size + 1 + 1 + 1, 1, none⟩ = some (.int .i64 (0)) := by simp [go_sem, hc1]
   have r1_3_1 : w1.frozen? ⟨w.heap.size + 1 + 1 + 1, 1, none⟩ = false := by simp [go_sem, hf1]
   clear hc1 hf1
   go_wp2_with fail
   refine (Meet_any _ _ _ _ _).mono ?_
   rw [HM2.out]
   (rintro e w2 ⟨rfl, hb⟩; obtain ⟨hc2, hf2⟩ := bcell hb; have hz2 := hb.size; (try simp at hz2); have HW2 := Lib.hid (show Below w.heap.size w w2 from Below.trans (by repeat' (first | with_reducible (first | exact HW1.out | apply bR | apply bD | apply bN | apply bA | apply bS) | (simp; done) | (simp; omega) | omega)) (hb.mono (by first | omega | simp <;> omega))); clear hb; (try have z20 : w.heap.size < w2.heap.size := by omega); (try have z21 : w.heap.size + 1 < w2.heap.size := by omega); (try have z22 : w.heap.size + 1 + 1 < w2.heap.size := by omega); (try have z23 : w.heap.size + 1 + 1 + 1 < w2.heap.size := by omega); (try have z24 : w.heap.size + 1 + 1 + 1 + 1 < w2.heap.size := by omega))
   have c2_0_0 : w2.cell? ⟨w.heap.size, 0, none⟩ = some (.int .i64 (m1l)) := by simp [go_sem, hc2, z10, z11, z12, z13, c1_0_0, c1_0_1, c1_1_0, c1_1_1, c1_2_0, c1_2_1, c1_3_0, c1_3_1]
   have r2_0_0 : w2.frozen? ⟨w.heap.size, 0, none⟩ = false := by simp [go_sem, hf2, z10, z11, z12, z13, r1_0_0, r1_0_1, r1_1_0, r1_1_1, r1_2_0, r1_2_1, r1_3_0, r1_3_1]
   have c2_0_1 : w2.cell? ⟨w.heap.size, 1, none⟩ = some (.int .i64 (m1h)) := by simp [go_sem, hc2, z10, z11, z12, z13, c1_0_0, c1_0_1, c1_1_0, c1_1_1, c1_2_0, c1_2_1, c1_3_0, c1_3_1]
   have r2_0_1 : w2.frozen? ⟨w.heap.size, 1, none⟩ = false := by simp [go_sem, hf2, z10, z11, z12, z13, r1_0_0, r1_0_1, r1_1_0, r1_1_1, r1_2_0, r1_2_1, r1_3_0, r1_3_1]
   have c2_1_0 : w2.cell? ⟨w.heap.size + 1, 0, none⟩ = some (.int .i64 (bl)) := by simp [go_sem, hc2, z10, z11, z12, z13, c1_0_0, c1_0_1, c1_1_0, c1_1_1, c1_2_0, c1_2_1, c1_3_0, c1_3_1]
   have r2_1_0 : w2.frozen? ⟨w.heap.size + 1, 0, none⟩ = false := by simp [go_sem, hf2, z10, z11, z12, z13, r1_0_0, r1_0_1, r1_1_0, r1_1_1, r1_2_0, r1_2_1, r1_3_0, r1_3_1]
   have c2_1_1 : w2.cell? ⟨w.heap.size + 1, 1, none⟩ = some (.int .i64 (bh)) := by simp [go_sem, hc2, z10, z11, z12, z13, c1_0_0, c1_0_1, c1_1_0, c1_1_1, c1_2_0, c1_2_1, c1_3_0, c1_3_1]
   have r2_1_1 : w2.frozen? ⟨w.heap.size + 1, 1, none⟩ = false := by simp [go_sem, hf2, z10, z11, z12, z13, r1_0_0, r1_0_1, r1_1_0, r1_1_1, r1_2_0, r1_2_1, r1_3_0, r1_3_1]
   have c2_2_0 : w2.cell? ⟨w.heap.size + 1 + 1, 0, none⟩ = some (.int .i64 (0)) := by simp [go_sem, hc2, z10, z11, z12, z13, c1_0_0, c1_0_1, c1_1_0, c1_1_1, c1_2_0, c1_2_1, c1_3_0, c1_3_1]
   have r2_2_0 : w2.frozen? ⟨w.heap.size + 1 + 1, 0, none⟩ = false := by simp [go_sem, hf2, z10, z11, z12, z13, r1_0_0, r1_0_1, r1_1_0, r1_1_1, r1_2_0, r1_2_1, r1_3_0, r1_3_1]
   have c2_2_1 : w2.cell? ⟨w.heap.size + 1 + 1, 1, none⟩ = some (.int .i64 (0)) := by simp [go_sem, hc2, z10, z11, z12, z13, c1_0_0, c1_0_1, c1_1_0, c1_1_1, c1_2_0, c1_2_1, c1_3_0, c1_3_1]
   have r2_2_1 : w2.frozen? ⟨w.heap.size + 1 + 1, 1, none⟩ = false := by simp [go_sem, hf2, z10, z11, z12, z13, r1_0_0, r1_0_1, r1_1_0, r1_1_1, r1_2_0, r1_2_1, r1_3_0, r1_3_1]
   have c2_3_0 : w2.cell? ⟨w.heap.size + 1 + 1 + 1, 0, none⟩ = some (.int .i64 (0)) := by simp [go_sem, hc2, z10, z11, z12, z13, c1_0_0, c1_0_1, c1_1_0, c1_1_1, c1_2_0, c1_2_1, c1_3_0, c1_3_1]
   have r2_3_0 : w2.frozen? ⟨w.heap.size + 1 + 1 + 1, 0, none⟩ = false := by simp [go_sem, hf2, z10, z11, z12, z13, r1_0_0, r1_0_1, r1_1_0, r1_1_1, r1_2_0, r1_2_1, r1_3_0, r1_3_1]
   have c2_3_1 : w2.cell? ⟨w.heap.size + 1 + 1 + 1, 1, none⟩ = some (.int .i64 (0)) := by simp [go_sem, hc2, z10, z11, z12, z13, c1_0_0, c1_0_1, c1_1_0, c1_1_1, c1_2_0, c1_2_1, c1_3_0, c1_3_1]
   have r2_3_1 : w2.frozen? ⟨w.heap.size + 1 + 1 + 1, 1, none⟩ = false := by simp [go_sem, hf2, z10, z11, z12, z13, r1_0_0, r1_0_1, r1_1_0, r1_1_1, r1_2_0, r1_2_1, r1_3_0, r1_3_1]
   clear hc2 hf2
   go_wp2_with fail
   first
   | exact bodyPost_ret (v := .tuple #[.agg #[.int .i64 0, .int .i64 0], .agg #[.int .i64 0, .int .i64 0], .bool false]) (by simp [results, Tryz.results185, go_sem, c2_0_0, c2_0_1, c2_1_0, c2_1_1, c2_2_0, c2_2_1, c2_3_0, c2_3_1]) rfl ⟨by simp [bnil], (by repeat' (first | with_reducible (first | exact HW2.out | apply bR | apply bD | apply bN | apply bA | apply bS) | (simp; done) | (simp; omega) | omega))⟩
   | (go_region; go_wp2_with fail; exact bodyPost_ret (v := .tuple #[.agg #[.int .i64 (m1l), .int .i64 (m1h)], .agg #[.int .i64 (m2l), .int .i64 (m2h)], .bool true]) (by simp [results, Tryz.results185, go_sem, c2_0_0, c2_0_1, c2_1_0, c2_1_1, c2_2_0, c2_2_1, c2_3_0, c2_3_1]) rfl ⟨by simp, (by repeat' (first | with_reducible (first | exact HW2.out | apply bR | apply bD | apply bN | apply bA | apply bS) | (simp; done) | (simp; omega) | omega))⟩)
set_option maxHeartbeats 4000000 in
theorem order_true (al ah bl bh : Int) (ib : In64 bl) (ia : In64 ah) (w : World) :
  Calls Tryz.prog 185 #[.agg #[.int .i64 al, .int .i64 ah], .agg #[.int .i64 bl, .int .i64 bh], .bool true] w fun e w' =>
   e = .returned (.tuple #[.agg #[.int .i64 (border ⟨al, ah⟩ ⟨bl, bh⟩ true).1.lo, .int .i64 (border ⟨al, ah⟩ ⟨bl, bh⟩ true).1.hi], .agg #[.int .i64 (border ⟨al, ah⟩ ⟨bl, bh⟩ true).2.1.lo, .int .i64 (border ⟨al, ah⟩ ⟨bl, bh⟩ true).2.1.hi], .bool (border ⟨al, ah⟩ ⟨bl, bh⟩ true).2.2]) ∧ Below w.heap.size w w' := by
 have e : border ⟨al, ah⟩ ⟨bl, bh⟩ true = if !(bmeet ⟨al, ah⟩ ⟨bl, 9223372036854775807⟩).2 || !(bmeet ⟨bl, bh⟩ ⟨-9223372036854775808, ah⟩).2 then (bnil, bnil, false) else ((bmeet ⟨al, ah⟩ ⟨bl, 9223372036854775807⟩).1, (bmeet ⟨bl, bh⟩ ⟨-9223372036854775808, ah⟩).1, true) := by
  unfold border; rw [if_neg (by simp)]; rfl
 rw [e]
 clear e ia ib
 generalize hm1 : bmeet ⟨al, ah⟩ ⟨bl, 9223372036854775807⟩ = m1
 generalize hm2 : bmeet ⟨bl, bh⟩ ⟨-9223372036854775808, ah⟩ = m2
 have HM1 := Lib.hid hm1
 have HM2 := Lib.hid hm2
 clear hm1 hm2
 obtain ⟨⟨m1l, m1h⟩, m1b⟩ := m1
 obtain ⟨⟨m2l, m2h⟩, m2b⟩ := m2
 have HW0 := Lib.hid (Below.refl w.heap.size w)
 cases m1b <;> cases m2b
 all_goals
  go_enter Tryz.func185, Tryz.ntmps185
  go_wp2_with fail
  go_quiet (fail)
  go_wp2_with fail
  refine (Meet_any _ _ _ _ _).mono ?_
  rw [HM1.out]
  (rintro e w1 ⟨rfl, hb⟩; obtain ⟨hc1, hf1⟩ := bcell hb; have hz1 := hb.size; (try simp at hz1); have HW1 := Lib.hid (show Below w.heap.size w w1 from Below.trans (by repeat' (first | with_reducible (first | exact HW0.out | apply bR | apply bD | apply bN | apply bA | apply bS) | (simp; done) | (simp; omega) | omega)) (hb.mono (by first | omega | simp <;> omega))); clear hb; (try have z10 : w.heap.size < w1.heap.size := by omega); (try have z11 : w.heap.size + 1 < w1.heap.size := by omega); (try have z12 : w.heap.size + 1 + 1 < w1.heap.size := by omega); (try have z13 : w.heap.size + 1 + 1 + 1 < w1.heap.size := by omega); (try have z14 : w.heap.size + 1 + 1 + 1 + 1 < w1.heap.size := by omega))
  have c1_0_0 : w1.cell? ⟨w.heap.size, 0, none⟩ = some (.int .i64 (al)) := by simp [go_sem, hc1]
  have r1_0_0 : w1.frozen? ⟨w.heap.size, 0, none⟩ = false := by simp [go_sem, hf1]
  have c1_0_1 : w1.cell? ⟨w.heap.size, 1, none⟩ = some (.int .i64 (ah)) := by simp [go_sem, hc1]
  have r1_0_1 : w1.frozen? ⟨w.heap.size, 1, none⟩ = false := by simp [go_sem, hf1]
  have c1_1_0 : w1.cell? ⟨w.heap.size + 1, 0, none⟩ = some (.int .i64 (bl)) := by simp [go_sem, hc1]
  have r1_1_0 : w1.frozen? ⟨w.heap.size + 1, 0, none⟩ = false := by simp [go_sem, hf1]
  have c1_1_1 : w1.cell? ⟨w.heap.size + 1, 1, none⟩ = some (.int .i64 (bh)) := by simp [go_sem, hc1]
  have r1_1_1 : w1.frozen? ⟨w.heap.size + 1, 1, none⟩ = false := by simp [go_sem, hf1]
  have c1_2_0 : w1.cell? ⟨w.heap.size + 1 + 1, 0, none⟩ = some (.int .i64 (0)) := by simp [go_sem, hc1]
  have r1_2_0 : w1.frozen? ⟨w.heap.size + 1 + 1, 0, none⟩ = false := by simp [go_sem, hf1]
  have c1_2_1 : w1.cell? ⟨w.heap.size + 1 + 1, 1, none⟩ = some (.int .i64 (0)) := by simp [go_sem, hc1]
  have r1_2_1 : w1.frozen? ⟨w.heap.size + 1 + 1, 1, none⟩ = false := by simp [go_sem, hf1]
  have c1_3_0 : w1.cell? ⟨w.heap.size + 1 + 1 + 1, 0, none⟩ = some (.int .i64 (0)) := by simp [go_sem, hc1]
  have r1_3_0 : w1.frozen? ⟨w.heap.size + 1 + 1 + 1, 0, none⟩ = false := by simp [go_sem, hf1]
  have c1_3_1 : w1.cell? ⟨w.heap.size + 1 + 1 + 1, 1, none⟩ = some (.int .i64 (0)) := by simp [go_sem, hc1]
  have r1_3_1 : w1.frozen? ⟨w.heap.size + 1 + 1 + 1, 1, none⟩ = false := by simp [go_sem, hf1]
  clear hc1 hf1
  go_wp2_with fail
  refine (Meet_any _ _ _ _ _).mono ?_
  rw [HM2.out]
  (rintro e w2 ⟨rfl, hb⟩; obtain ⟨hc2, hf2⟩ := bcell hb; have hz2 := hb.size; (try simp at hz2); have HW2 := Lib.hid (show Below w.heap.size w w2 from Below.trans (by repeat' (first | with_reducible (first | exact HW1.out | apply bR | apply bD | apply bN | apply bA | apply bS) | (simp; done) | (simp; omega) | omega)) (hb.mono (by first | omega | simp <;> omega))); clear hb; (try have z20 : w.heap.size < w2.heap.size := by omega); (try have z21 : w.heap.size + 1 < w2.heap.size := by omega); (try have z22 : w.heap.size + 1 + 1 < w2.heap.size := by omega); (try have z23 : w.heap.size + 1 + 1 + 1 < w2.heap.size := by omega); (try have z24 : w.heap.size + 1 + 1 + 1 + 1 < w2.heap.size := by omega))
  have c2_0_0 : w2.cell? ⟨w.heap.size, 0, none⟩ = some (.int .i64 (m1l)) := by simp [go_sem, hc2, z10, z11, z12, z13, c1_0_0, c1_0_1, c1_1_0, c1_1_1, c1_2_0, c1_2_1, c1_3_0, c1_3_1]
  have r2_0_0 : w2.frozen? ⟨w.heap.size, 0, none⟩ = false := by simp [go_sem, hf2, z10, z11, z12, z13, r1_0_0, r1_0_1, r1_1_0, r1_1_1, r1_2_0, r1_2_1, r1_3_0, r1_3_1]
  have c2_0_1 : w2.cell? ⟨w.heap.size, 1, none⟩ = some (.int .i64 (m1h)) := by simp [go_sem, hc2, z10, z11, z12, z13, c1_0_0, c1_0_1, c1_1_0, c1_1_1, c1_2_0, c1_2_1, c1_3_0, c1_3_1]
  have r2_0_1 : w2.frozen? ⟨w.heap.size, 1, none⟩ = false := by simp [go_sem, hf2, z10, z11, z12, z13, r1_0_0, r1_0_1, r1_1_0, r1_1_1, r1_2_0, r1_2_1, r1_3_0, r1_3_1]
  have c2_1_0 : w2.cell? ⟨w.heap.size + 1, 0, none⟩ = some (.int .i64 (bl)) := by simp [go_sem, hc2, z10, z11, z12, z13, c1_0_0, c1_0_1, c1_1_0, c1_1_1, c1_2_0, c1_2_1, c1_3_0, c1_3_1]
  have r2_1_0 : w2.frozen? ⟨w.heap.size + 1, 0, none⟩ = false := by simp [go_sem, hf2, z10, z11, z12, z13, r1_0_0, r1_0_1, r1_1_0, r1_1_1, r1_2_0, r1_2_1, r1_3_0, r1_3_1]
  have c2_1_1 : w2.cell? ⟨w.heap.size + 1, 1, none⟩ = some (.int .i64 (bh)) := by simp [go_sem, hc2, z10, z11, z12, z13, c1_0_0, c1_0_1, c1_1_0, c1_1_1, c1_2_0, c1_2_1, c1_3_0, c1_3_1]
  have r2_1_1 : w2.frozen? ⟨w.heap.size + 1, 1, none⟩ = false := by simp [go_sem, hf2, z10, z11, z12, z13, r1_0_0, r1_0_1, r1_1_0, r1_1_1, r1_2_0, r1_2_1, r1_3_0, r1_3_1]
  have c2_2_0 : w2.cell? ⟨w.heap.size + 1 + 1, 0, none⟩ = some (.int .i64 (0)) := by simp [go_sem, hc2, z10, z11, z12, z13, c1_0_0, c1_0_1, c1_1_0, c1_1_1, c1_2_0, c1_2_1, c1_3_0, c1_3_1]
  have r2_2_0 : w2.frozen? ⟨w.heap.size + 1 + 1, 0, none⟩ = false := by simp [go_sem, hf2, z10, z11, z12, z13, r1_0_0, r1_0_1, r1_1_0, r1_1_1, r1_2_0, r1_2_1, r1_3_0, r1_3_1]
  have c2_2_1 : w2.cell? ⟨w.heap.size + 1 + 1, 1, none⟩ = some (.int .i64 (0)) := by simp [go_sem, hc2, z10, z11, z12, z13, c1_0_0, c1_0_1, c1_1_0, c1_1_1, c1_2_0, c1_2_1, c1_3_0, c1_3_1]
  have r2_2_1 : w2.frozen? ⟨w.heap.size + 1 + 1, 1, none⟩ = false := by simp [go_sem, hf2, z10, z11, z12, z13, r1_0_0, r1_0_1, r1_1_0, r1_1_1, r1_2_0, r1_2_1, r1_3_0, r1_3_1]
  have c2_3_0 : w2.cell? ⟨w.heap.size + 1 + 1 + 1, 0, none⟩ = some (.int .i64 (0)) := by simp [go_sem, hc2, z10, z11, z12, z13, c1_0_0, c1_0_1, c1_1_0, c1_1_1, c1_2_0, c1_2_1, c1_3_0, c1_3_1]
  have r2_3_0 : w2.frozen? ⟨w.heap.size + 1 + 1 + 1, 0, none⟩ = false := by simp [go_sem, hf2, z10, z11, z12, z13, r1_0_0, r1_0_1, r1_1_0, r1_1_1, r1_2_0, r1_2_1, r1_3_0, r1_3_1]
  have c2_3_1 : w2.cell? ⟨w.heap.size + 1 + 1 + 1, 1, none⟩ = some (.int .i64 (0)) := by simp [go_sem, hc2, z10, z11, z12, z13, c1_0_0, c1_0_1, c1_1_0, c1_1_1, c1_2_0, c1_2_1, c1_3_0, c1_3_1]
  have r2_3_1 : w2.frozen? ⟨w.heap.size + 1 + 1 + 1, 1, none⟩ = false := by simp [go_sem, hf2, z10, z11, z12, z13, r1_0_0, r1_0_1, r1_1_0, r1_1_1, r1_2_0, r1_2_1, r1_3_0, r1_3_1]
  clear hc2 hf2
  go_wp2_with fail
  first
  | exact bodyPost_ret (v := .tuple #[.agg #[.int .i64 0, .int .i64 0], .agg #[.int .i64 0, .int .i64 0], .bool false]) (by simp [results, Tryz.results185, go_sem, c2_0_0, c2_0_1, c2_1_0, c2_1_1, c2_2_0, c2_2_1, c2_3_0, c2_3_1]) rfl ⟨by simp [bnil], (by repeat' (first | with_reducible (first | exact HW2.out | apply bR | apply bD | apply bN | apply bA | apply bS) | (simp; done) | (simp; omega) | omega))⟩
  | (go_region; go_wp2_with fail; exact bodyPost_ret (v := .tuple #[.agg #[.int .i64 (m1l), .int .i64 (m1h)], .agg #[.int .i64 (m2l), .int .i64 (m2h)], .bool true]) (by simp [results, Tryz.results185, go_sem, c2_0_0, c2_0_1, c2_1_0, c2_1_1, c2_2_0, c2_2_1, c2_3_0, c2_3_1]) rfl ⟨by simp, (by repeat' (first | with_reducible (first | exact HW2.out | apply bR | apply bD | apply bN | apply bA | apply bS) | (simp; done) | (simp; omega) | omega))⟩)
theorem order_any (al ah bl bh : Int) (same : Bool) (ib : In64 bl) (ia : In64 ah) (w : World) :
  Calls Tryz.prog 185 #[.agg #[.int .i64 al, .int .i64 ah], .agg #[.int .i64 bl, .int .i64 bh], .bool same] w fun e w' =>
   e = .returned (.tuple #[.agg #[.int .i64 (border ⟨al, ah⟩ ⟨bl, bh⟩ same).1.lo, .int .i64 (border ⟨al, ah⟩ ⟨bl, bh⟩ same).1.hi], .agg #[.int .i64 (border ⟨al, ah⟩ ⟨bl, bh⟩ same).2.1.lo, .int .i64 (border ⟨al, ah⟩ ⟨bl, bh⟩ same).2.1.hi], .bool (border ⟨al, ah⟩ ⟨bl, bh⟩ same).2.2]) ∧ Below w.heap.size w w' := by
 cases same
 ·exact order_false al ah bl bh ib ia w
 ·exact order_true al ah bl bh ib ia w
set_option maxHeartbeats 4000000 in
theorem cut_any (al ah bl bh : Int) (ia : In64 al) (ia2 : In64 ah) (w : World) :
  Calls Tryz.prog 219 #[.agg #[.int .i64 al, .int .i64 ah], .agg #[.int .i64 bl, .int .i64 bh]] w fun e w' => e = .returned (.agg #[.int .i64 ((bcut ⟨al, ah⟩ ⟨bl, bh⟩).lo), .int .i64 ((bcut ⟨al, ah⟩ ⟨bl, bh⟩).hi)]) ∧ Below w.heap.size w w' := by
 have HW0 := Lib.hid (Below.refl w.heap.size w)
 have b1 : -9223372036854775808 ≤ al := ia.1
 have b2 : ah ≤ 9223372036854775807 := ia2.2
 clear ia ia2
 by_cases h1 : bl = bh
 ·have t1 : (bl == bh) = true := by simp [h1]
  by_cases h2 : al < ah
  ·by_cases h3 : al = bl
   ·have e : bcut ⟨al, ah⟩ ⟨bl, bh⟩ = ⟨al + 1, ah⟩ := by unfold bcut; rw [if_pos ⟨h1, h2⟩, if_pos h3]
    rw [e]
    have t2 : (al == bl) = true := by simp [h3]
    clear e h1 h3
    go_enter Tryz.func219, Tryz.ntmps219
    go_wp2_with fail
    exact bodyPost_ret (v := .agg #[.int .i64 (al + 1), .int .i64 (ah)]) (by simp [results, Tryz.results219, go_sem]) rfl ⟨rfl, (by repeat' (first | with_reducible (first | exact HW0.out | apply bR | apply bD | apply bN | apply bA | apply bS) | (simp; done) | (simp; omega) | omega))⟩
   ·have t2 : (al == bl) = false := by simp [h3]
    by_cases h4 : ah = bl
    ·have e : bcut ⟨al, ah⟩ ⟨bl, bh⟩ = ⟨al, ah - 1⟩ := by unfold bcut; rw [if_pos ⟨h1, h2⟩, if_neg h3, if_pos h4]
     rw [e]
     have t3 : (ah == bl) = true := by simp [h4]
     clear e h1 h3 h4
     go_enter Tryz.func219, Tryz.ntmps219
     go_wp2_with fail
     exact bodyPost_ret (v := .agg #[.int .i64 (al), .int .i64 (ah - 1)]) (by simp [results, Tryz.results219, go_sem]) rfl ⟨rfl, (by repeat' (first | with_reducible (first | exact HW0.out | apply bR | apply bD | apply bN | apply bA | apply bS) | (simp; done) | (simp; omega) | omega))⟩
    ·have e : bcut ⟨al, ah⟩ ⟨bl, bh⟩ = ⟨al, ah⟩ := by unfold bcut; rw [if_pos ⟨h1, h2⟩, if_neg h3, if_neg h4]
     rw [e]
     have t3 : (ah == bl) = false := by simp [h4]
     clear e h1 h3 h4
     go_enter Tryz.func219, Tryz.ntmps219
     go_wp2_with fail
     exact bodyPost_ret (v := .agg #[.int .i64 (al), .int .i64 (ah)]) (by simp [results, Tryz.results219, go_sem]) rfl ⟨rfl, (by repeat' (first | with_reducible (first | exact HW0.out | apply bR | apply bD | apply bN | apply bA | apply bS) | (simp; done) | (simp; omega) | omega))⟩
  ·have e : bcut ⟨al, ah⟩ ⟨bl, bh⟩ = ⟨al, ah⟩ := by unfold bcut; rw [if_neg (fun h => h2 h.2)]
   rw [e]
   clear e h1
   go_enter Tryz.func219, Tryz.ntmps219
   go_wp2_with fail
   exact bodyPost_ret (v := .agg #[.int .i64 (al), .int .i64 (ah)]) (by simp [results, Tryz.results219, go_sem]) rfl ⟨rfl, (by repeat' (first | with_reducible (first | exact HW0.out | apply bR | apply bD | apply bN | apply bA | apply bS) | (simp; done) | (simp; omega) | omega))⟩
 ·have e : bcut ⟨al, ah⟩ ⟨bl, bh⟩ = ⟨al, ah⟩ := by unfold bcut; rw [if_neg (fun h => h1 h.1)]
  rw [e]
  have t1 : (bl == bh) = false := by simp [h1]
  clear e h1
  go_enter Tryz.func219, Tryz.ntmps219
  go_wp2_with fail
  exact bodyPost_ret (v := .agg #[.int .i64 (al), .int .i64 (ah)]) (by simp [results, Tryz.results219, go_sem]) rfl ⟨rfl, (by repeat' (first | with_reducible (first | exact HW0.out | apply bR | apply bD | apply bN | apply bA | apply bS) | (simp; done) | (simp; omega) | omega))⟩
theorem below4 (w : World) (o1 o2 o3 o4 : Obj) : Below w.heap.size w ((((w.alloc o1).alloc o2).alloc o3).alloc o4).drew := by
 repeat' (first | with_reducible exact Below.refl _ _ | with_reducible refine Below.drew ?_ | with_reducible refine Below.alloc ?_ ?_ _ | (simp; done) | (simp; omega))
set_option maxHeartbeats 4000000 in
theorem unlike_any (al ah bl bh : Int) (ia : In64 al) (ia2 : In64 ah) (ib : In64 bl) (ib2 : In64 bh) (w : World) :
  Calls Tryz.prog 184 #[.agg #[.int .i64 al, .int .i64 ah], .agg #[.int .i64 bl, .int .i64 bh]] w fun e w' => e = .returned (.tuple #[.agg #[.int .i64 (bunlike ⟨al, ah⟩ ⟨bl, bh⟩).1.lo, .int .i64 (bunlike ⟨al, ah⟩ ⟨bl, bh⟩).1.hi], .agg #[.int .i64 (bunlike ⟨al, ah⟩ ⟨bl, bh⟩).2.1.lo, .int .i64 (bunlike ⟨al, ah⟩ ⟨bl, bh⟩).2.1.hi], .bool (bunlike ⟨al, ah⟩ ⟨bl, bh⟩).2.2]) ∧ Below w.heap.size w w' := by
 have HW0 := Lib.hid (Below.refl w.heap.size w)
 have IA := Lib.hid ia; have IA2 := Lib.hid ia2; have IB := Lib.hid ib; have IB2 := Lib.hid ib2
 clear ia ia2 ib ib2
 by_cases h1 : al = ah ∧ al = bl ∧ ah = bh
 ·obtain ⟨rfl, rfl, rfl⟩ := h1
  have e : bunlike ⟨al, al⟩ ⟨al, al⟩ = (bnil, bnil, false) := by unfold bunlike; simp
  rw [e]
  clear e
  go_enter Tryz.func184, Tryz.ntmps184
  go_wp2_with fail
  exact bodyPost_ret (v := .tuple #[.agg #[.int .i64 0, .int .i64 0], .agg #[.int .i64 0, .int .i64 0], .bool false]) (by simp [results, Tryz.results184, go_sem]) rfl ⟨rfl, (by repeat' (first | with_reducible (first | exact HW0.out | apply bR | apply bD | apply bN | apply bA | apply bS) | (simp; done) | (simp; omega) | omega))⟩
 ·have e : bunlike ⟨al, ah⟩ ⟨bl, bh⟩ = (bcut ⟨al, ah⟩ ⟨bl, bh⟩, bcut ⟨bl, bh⟩ ⟨al, ah⟩, true) := by
   unfold bunlike; rw [if_neg]; rintro ⟨h2, h3⟩; rw [B.mk.injEq] at h3; exact h1 ⟨h2, h3⟩
  rw [e]
  clear e
  by_cases h2 : al = ah
  ·have t1 : (al == ah) = true := by simp [h2]
   by_cases h3 : al = bl
   ·subst h3
    have h4 : ¬ ah = bh := fun h => h1 ⟨h2, rfl, h⟩
    clear h1 h2
    go_enter Tryz.func184, Tryz.ntmps184
    go_wp2_with fail
    go_region_held3 (fun w' => w'.cell? ⟨w.heap.size, 0, none⟩ = some (.int .i64 al) ∧ w'.cell? ⟨w.heap.size, 1, none⟩ = some (.int .i64 ah) ∧ w'.cell? ⟨w.heap.size + 1, 0, none⟩ = some (.int .i64 al) ∧ w'.cell? ⟨w.heap.size + 1, 1, none⟩ = some (.int .i64 bh))
     (first | (simp [go_sem, *]; done))
     (first | (go_at_call 219; refine (cut_any _ _ _ _ (by first | exact IA.out | exact IB.out) (by first | exact IA2.out | exact IB2.out) _).mono ?_; rintro e w1 ⟨rfl, hb⟩; obtain ⟨hc, hf⟩ := bcell hb; have hz := hb.size; (try simp at hz); have z0 : w.heap.size < w1.heap.size := (by omega); have z1 : w.heap.size + 1 < w1.heap.size := (by omega); have z2 : w.heap.size + 1 + 1 < w1.heap.size := (by omega); have z3 : w.heap.size + 1 + 1 + 1 < w1.heap.size := (by omega); have hwn : Below w.heap.size w w1 := (by first | exact Below.trans (below4 w _ _ _ _) (hb.mono (by first | omega | simp <;> omega)) | exact Below.trans hwn (hb.mono (by first | omega | simp <;> omega))); clear hb))
    go_wp2_with fail
    refine bodyPost_ret (v := .tuple #[.agg #[.int .i64 ((bcut ⟨al, ah⟩ ⟨al, bh⟩).lo), .int .i64 ((bcut ⟨al, ah⟩ ⟨al, bh⟩).hi)], .agg #[.int .i64 ((bcut ⟨al, bh⟩ ⟨al, ah⟩).lo), .int .i64 ((bcut ⟨al, bh⟩ ⟨al, ah⟩).hi)], .bool true]) (by simp [results, Tryz.results184, go_sem, *]) rfl ⟨rfl, ?_⟩
    repeat' (first | with_reducible exact hwn | with_reducible refine Below.setCell ?_ ?_ _ | (simp; done) | (simp; omega))
   ·clear h1 h2
    go_enter Tryz.func184, Tryz.ntmps184
    go_wp2_with fail
    go_region_held3 (fun w' => w'.cell? ⟨w.heap.size, 0, none⟩ = some (.int .i64 al) ∧ w'.cell? ⟨w.heap.size, 1, none⟩ = some (.int .i64 ah) ∧ w'.cell? ⟨w.heap.size + 1, 0, none⟩ = some (.int .i64 bl) ∧ w'.cell? ⟨w.heap.size + 1, 1, none⟩ = some (.int .i64 bh))
     (first | (simp [go_sem, *]; done))
     (first | (go_at_call 219; refine (cut_any _ _ _ _ (by first | exact IA.out | exact IB.out) (by first | exact IA2.out | exact IB2.out) _).mono ?_; rintro e w1 ⟨rfl, hb⟩; obtain ⟨hc, hf⟩ := bcell hb; have hz := hb.size; (try simp at hz); have z0 : w.heap.size < w1.heap.size := (by omega); have z1 : w.heap.size + 1 < w1.heap.size := (by omega); have z2 : w.heap.size + 1 + 1 < w1.heap.size := (by omega); have z3 : w.heap.size + 1 + 1 + 1 < w1.heap.size := (by omega); have hwn : Below w.heap.size w w1 := (by first | exact Below.trans (below4 w _ _ _ _) (hb.mono (by first | omega | simp <;> omega)) | exact Below.trans hwn (hb.mono (by first | omega | simp <;> omega))); clear hb))
    go_wp2_with fail
    refine bodyPost_ret (v := .tuple #[.agg #[.int .i64 ((bcut ⟨al, ah⟩ ⟨bl, bh⟩).lo), .int .i64 ((bcut ⟨al, ah⟩ ⟨bl, bh⟩).hi)], .agg #[.int .i64 ((bcut ⟨bl, bh⟩ ⟨al, ah⟩).lo), .int .i64 ((bcut ⟨bl, bh⟩ ⟨al, ah⟩).hi)], .bool true]) (by simp [results, Tryz.results184, go_sem, *]) rfl ⟨rfl, ?_⟩
    repeat' (first | with_reducible exact hwn | with_reducible refine Below.setCell ?_ ?_ _ | (simp; done) | (simp; omega))
  ·have t1 : (al == ah) = false := by simp [h2]
   clear h1 h2
   go_enter Tryz.func184, Tryz.ntmps184
   go_wp2_with fail
   go_region_held3 (fun w' => w'.cell? ⟨w.heap.size, 0, none⟩ = some (.int .i64 al) ∧ w'.cell? ⟨w.heap.size, 1, none⟩ = some (.int .i64 ah) ∧ w'.cell? ⟨w.heap.size + 1, 0, none⟩ = some (.int .i64 bl) ∧ w'.cell? ⟨w.heap.size + 1, 1, none⟩ = some (.int .i64 bh))
    (first | (simp [go_sem, *]; done))
    (first | (go_at_call 219; refine (cut_any _ _ _ _ (by first | exact IA.out | exact IB.out) (by first | exact IA2.out | exact IB2.out) _).mono ?_; rintro e w1 ⟨rfl, hb⟩; obtain ⟨hc, hf⟩ := bcell hb; have hz := hb.size; (try simp at hz); have z0 : w.heap.size < w1.heap.size := (by omega); have z1 : w.heap.size + 1 < w1.heap.size := (by omega); have z2 : w.heap.size + 1 + 1 < w1.heap.size := (by omega); have z3 : w.heap.size + 1 + 1 + 1 < w1.heap.size := (by omega); have hwn : Below w.heap.size w w1 := (by first | exact Below.trans (below4 w _ _ _ _) (hb.mono (by first | omega | simp <;> omega)) | exact Below.trans hwn (hb.mono (by first | omega | simp <;> omega))); clear hb))
   go_wp2_with fail
   refine bodyPost_ret (v := .tuple #[.agg #[.int .i64 ((bcut ⟨al, ah⟩ ⟨bl, bh⟩).lo), .int .i64 ((bcut ⟨al, ah⟩ ⟨bl, bh⟩).hi)], .agg #[.int .i64 ((bcut ⟨bl, bh⟩ ⟨al, ah⟩).lo), .int .i64 ((bcut ⟨bl, bh⟩ ⟨al, ah⟩).hi)], .bool true]) (by simp [results, Tryz.results184, go_sem, *]) rfl ⟨rfl, ?_⟩
   repeat' (first | with_reducible exact hwn | with_reducible refine Below.setCell ?_ ?_ _ | (simp; done) | (simp; omega))
set_option maxHeartbeats 4000000 in
theorem unsigned_any (al ah bl bh : Int) (same : Bool) (ia : In64 al) (ia2 : In64 ah) (ib : In64 bl) (ib2 : In64 bh) (w : World) :
  Calls Tryz.prog 186 #[.agg #[.int .i64 al, .int .i64 ah], .agg #[.int .i64 bl, .int .i64 bh], .bool same] w fun e w' => e = .returned (.tuple #[.agg #[.int .i64 (bunsigned ⟨al, ah⟩ ⟨bl, bh⟩ same).1.lo, .int .i64 (bunsigned ⟨al, ah⟩ ⟨bl, bh⟩ same).1.hi], .agg #[.int .i64 (bunsigned ⟨al, ah⟩ ⟨bl, bh⟩ same).2.1.lo, .int .i64 (bunsigned ⟨al, ah⟩ ⟨bl, bh⟩ same).2.1.hi], .bool (bunsigned ⟨al, ah⟩ ⟨bl, bh⟩ same).2.2]) ∧ Below w.heap.size w w' := by
 have HW0 := Lib.hid (Below.refl w.heap.size w)
 by_cases h0 : bl < 0
 ·have e : bunsigned ⟨al, ah⟩ ⟨bl, bh⟩ same = (⟨al, ah⟩, ⟨bl, bh⟩, true) := by unfold bunsigned; rw [if_pos h0]
  rw [e]
  clear e ia ia2 ib ib2
  go_enter Tryz.func186, Tryz.ntmps186
  go_wp2_with fail
  go_region
  go_wp2_with fail
  exact bodyPost_ret (v := .tuple #[.agg #[.int .i64 (al), .int .i64 (ah)], .agg #[.int .i64 (bl), .int .i64 (bh)], .bool true]) (by simp [results, Tryz.results186, go_sem]) rfl ⟨rfl, (by repeat' (first | with_reducible (first | exact HW0.out | apply bR | apply bD | apply bN | apply bA | apply bS) | (simp; done) | (simp; omega) | omega))⟩
 ·generalize hm1 : bmeet ⟨al, ah⟩ ⟨0, 9223372036854775807⟩ = m1
  have HM := Lib.hid hm1
  obtain ⟨⟨m1l, m1h⟩, m1b⟩ := m1
  cases m1b
  ·have e : bunsigned ⟨al, ah⟩ ⟨bl, bh⟩ same = (bnil, bnil, false) := by unfold bunsigned; rw [if_neg h0, hm1]; rfl
   rw [e]
   clear e ia ia2 ib ib2 hm1
   go_enter Tryz.func186, Tryz.ntmps186
   go_wp2_with fail
   refine (Meet_any _ _ _ _ _).mono ?_
   rw [HM.out]
   (rintro e w1 ⟨rfl, hb⟩; obtain ⟨hc1, hf1⟩ := bcell hb; have hz1 := hb.size; (try simp at hz1); have HW1 := Lib.hid (show Below w.heap.size w w1 from Below.trans (by repeat' (first | with_reducible (first | exact HW0.out | apply bR | apply bD | apply bN | apply bA | apply bS) | (simp; done) | (simp; omega) | omega)) (hb.mono (by first | omega | simp <;> omega))); clear hb; (try have z10 : w.heap.size < w1.heap.size := by omega); (try have z11 : w.heap.size + 1 < w1.heap.size := by omega); (try have z12 : w.heap.size + 1 + 1 < w1.heap.size := by omega); (try have z13 : w.heap.size + 1 + 1 + 1 < w1.heap.size := by omega); (try have z14 : w.heap.size + 1 + 1 + 1 + 1 < w1.heap.size := by omega))
   have c1_0_0 : w1.cell? ⟨w.heap.size, 0, none⟩ = some (.int .i64 (al)) := by simp [go_sem, hc1]
   have r1_0_0 : w1.frozen? ⟨w.heap.size, 0, none⟩ = false := by simp [go_sem, hf1]
   have c1_0_1 : w1.cell? ⟨w.heap.size, 1, none⟩ = some (.int .i64 (ah)) := by simp [go_sem, hc1]
   have r1_0_1 : w1.frozen? ⟨w.heap.size, 1, none⟩ = false := by simp [go_sem, hf1]
   have c1_1_0 : w1.cell? ⟨w.heap.size + 1, 0, none⟩ = some (.int .i64 (bl)) := by simp [go_sem, hc1]
   have r1_1_0 : w1.frozen? ⟨w.heap.size + 1, 0, none⟩ = false := by simp [go_sem, hf1]
   have c1_1_1 : w1.cell? ⟨w.heap.size + 1, 1, none⟩ = some (.int .i64 (bh)) := by simp [go_sem, hc1]
   have r1_1_1 : w1.frozen? ⟨w.heap.size + 1, 1, none⟩ = false := by simp [go_sem, hf1]
   have c1_2_0 : w1.cell? ⟨w.heap.size + 1 + 1, 0, none⟩ = some (.int .i64 (0)) := by simp [go_sem, hc1]
   have r1_2_0 : w1.frozen? ⟨w.heap.size + 1 + 1, 0, none⟩ = false := by simp [go_sem, hf1]
   have c1_2_1 : w1.cell? ⟨w.heap.size + 1 + 1, 1, none⟩ = some (.int .i64 (0)) := by simp [go_sem, hc1]
   have r1_2_1 : w1.frozen? ⟨w.heap.size + 1 + 1, 1, none⟩ = false := by simp [go_sem, hf1]
   have c1_3_0 : w1.cell? ⟨w.heap.size + 1 + 1 + 1, 0, none⟩ = some (.int .i64 (0)) := by simp [go_sem, hc1]
   have r1_3_0 : w1.frozen? ⟨w.heap.size + 1 + 1 + 1, 0, none⟩ = false := by simp [go_sem, hf1]
   have c1_3_1 : w1.cell? ⟨w.heap.size + 1 + 1 + 1, 1, none⟩ = some (.int .i64 (0)) := by simp [go_sem, hc1]
   have r1_3_1 : w1.frozen? ⟨w.heap.size + 1 + 1 + 1, 1, none⟩ = false := by simp [go_sem, hf1]
   clear hc1 hf1
   go_wp2_with fail
   exact bodyPost_ret (v := .tuple #[.agg #[.int .i64 0, .int .i64 0], .agg #[.int .i64 0, .int .i64 0], .bool false]) (by simp [results, Tryz.results186, go_sem, c1_0_0, c1_0_1, c1_1_0, c1_1_1, c1_2_0, c1_2_1, c1_3_0, c1_3_1]) rfl ⟨by simp [bnil], (by repeat' (first | with_reducible (first | exact HW1.out | apply bR | apply bD | apply bN | apply bA | apply bS) | (simp; done) | (simp; omega) | omega))⟩
  ·have e : bunsigned ⟨al, ah⟩ ⟨bl, bh⟩ same = bswap (border ⟨bl, bh⟩ ⟨m1l, m1h⟩ same) := by unfold bunsigned; rw [if_neg h0, hm1]; rfl
   rw [e]
   have hmo := bmeet_ok (a := ⟨al, ah⟩) (b := ⟨0, 9223372036854775807⟩) ⟨ia, ia2⟩ (by unfold B.In In64; simp) (by rw [hm1])
   rw [hm1] at hmo
   have IM := Lib.hid hmo.1
   have IB2 := Lib.hid ib2
   clear e ia ia2 ib ib2 hm1 hmo
   generalize ho : border ⟨bl, bh⟩ ⟨m1l, m1h⟩ same = o
   have HO := Lib.hid ho
   clear ho
   obtain ⟨⟨ol, oh⟩, ⟨pl, ph⟩, ob⟩ := o
   go_enter Tryz.func186, Tryz.ntmps186
   go_wp2_with fail
   refine (Meet_any _ _ _ _ _).mono ?_
   rw [HM.out]
   (rintro e w1 ⟨rfl, hb⟩; obtain ⟨hc1, hf1⟩ := bcell hb; have hz1 := hb.size; (try simp at hz1); have HW1 := Lib.hid (show Below w.heap.size w w1 from Below.trans (by repeat' (first | with_reducible (first | exact HW0.out | apply bR | apply bD | apply bN | apply bA | apply bS) | (simp; done) | (simp; omega) | omega)) (hb.mono (by first | omega | simp <;> omega))); clear hb; (try have z10 : w.heap.size < w1.heap.size := by omega); (try have z11 : w.heap.size + 1 < w1.heap.size := by omega); (try have z12 : w.heap.size + 1 + 1 < w1.heap.size := by omega); (try have z13 : w.heap.size + 1 + 1 + 1 < w1.heap.size := by omega); (try have z14 : w.heap.size + 1 + 1 + 1 + 1 < w1.heap.size := by omega))
   have c1_0_0 : w1.cell? ⟨w.heap.size, 0, none⟩ = some (.int .i64 (al)) := by simp [go_sem, hc1]
   have r1_0_0 : w1.frozen? ⟨w.heap.size, 0, none⟩ = false := by simp [go_sem, hf1]
   have c1_0_1 : w1.cell? ⟨w.heap.size, 1, none⟩ = some (.int .i64 (ah)) := by simp [go_sem, hc1]
   have r1_0_1 : w1.frozen? ⟨w.heap.size, 1, none⟩ = false := by simp [go_sem, hf1]
   have c1_1_0 : w1.cell? ⟨w.heap.size + 1, 0, none⟩ = some (.int .i64 (bl)) := by simp [go_sem, hc1]
   have r1_1_0 : w1.frozen? ⟨w.heap.size + 1, 0, none⟩ = false := by simp [go_sem, hf1]
   have c1_1_1 : w1.cell? ⟨w.heap.size + 1, 1, none⟩ = some (.int .i64 (bh)) := by simp [go_sem, hc1]
   have r1_1_1 : w1.frozen? ⟨w.heap.size + 1, 1, none⟩ = false := by simp [go_sem, hf1]
   have c1_2_0 : w1.cell? ⟨w.heap.size + 1 + 1, 0, none⟩ = some (.int .i64 (0)) := by simp [go_sem, hc1]
   have r1_2_0 : w1.frozen? ⟨w.heap.size + 1 + 1, 0, none⟩ = false := by simp [go_sem, hf1]
   have c1_2_1 : w1.cell? ⟨w.heap.size + 1 + 1, 1, none⟩ = some (.int .i64 (0)) := by simp [go_sem, hc1]
   have r1_2_1 : w1.frozen? ⟨w.heap.size + 1 + 1, 1, none⟩ = false := by simp [go_sem, hf1]
   have c1_3_0 : w1.cell? ⟨w.heap.size + 1 + 1 + 1, 0, none⟩ = some (.int .i64 (0)) := by simp [go_sem, hc1]
   have r1_3_0 : w1.frozen? ⟨w.heap.size + 1 + 1 + 1, 0, none⟩ = false := by simp [go_sem, hf1]
   have c1_3_1 : w1.cell? ⟨w.heap.size + 1 + 1 + 1, 1, none⟩ = some (.int .i64 (0)) := by simp [go_sem, hc1]
   have r1_3_1 : w1.frozen? ⟨w.heap.size + 1 + 1 + 1, 1, none⟩ = false := by simp [go_sem, hf1]
   clear hc1 hf1
   go_wp2_with fail
   refine (order_any _ _ _ _ _ IM.out IB2.out _).mono ?_
   rw [HO.out]
   (rintro e w2 ⟨rfl, hb⟩; obtain ⟨hc2, hf2⟩ := bcell hb; have hz2 := hb.size; (try simp at hz2); have HW2 := Lib.hid (show Below w.heap.size w w2 from Below.trans (by repeat' (first | with_reducible (first | exact HW1.out | apply bR | apply bD | apply bN | apply bA | apply bS) | (simp; done) | (simp; omega) | omega)) (hb.mono (by first | omega | simp <;> omega))); clear hb; (try have z20 : w.heap.size < w2.heap.size := by omega); (try have z21 : w.heap.size + 1 < w2.heap.size := by omega); (try have z22 : w.heap.size + 1 + 1 < w2.heap.size := by omega); (try have z23 : w.heap.size + 1 + 1 + 1 < w2.heap.size := by omega); (try have z24 : w.heap.size + 1 + 1 + 1 + 1 < w2.heap.size := by omega))
   have c2_0_0 : w2.cell? ⟨w.heap.size, 0, none⟩ = some (.int .i64 (m1l)) := by simp [go_sem, hc2, z10, z11, z12, z13, c1_0_0, c1_0_1, c1_1_0, c1_1_1, c1_2_0, c1_2_1, c1_3_0, c1_3_1]
   have r2_0_0 : w2.frozen? ⟨w.heap.size, 0, none⟩ = false := by simp [go_sem, hf2, z10, z11, z12, z13, r1_0_0, r1_0_1, r1_1_0, r1_1_1, r1_2_0, r1_2_1, r1_3_0, r1_3_1]
   have c2_0_1 : w2.cell? ⟨w.heap.size, 1, none⟩ = some (.int .i64 (m1h)) := by simp [go_sem, hc2, z10, z11, z12, z13, c1_0_0, c1_0_1, c1_1_0, c1_1_1, c1_2_0, c1_2_1, c1_3_0, c1_3_1]
   have r2_0_1 : w2.frozen? ⟨w.heap.size, 1, none⟩ = false := by simp [go_sem, hf2, z10, z11, z12, z13, r1_0_0, r1_0_1, r1_1_0, r1_1_1, r1_2_0, r1_2_1, r1_3_0, r1_3_1]
   have c2_1_0 : w2.cell? ⟨w.heap.size + 1, 0, none⟩ = some (.int .i64 (bl)) := by simp [go_sem, hc2, z10, z11, z12, z13, c1_0_0, c1_0_1, c1_1_0, c1_1_1, c1_2_0, c1_2_1, c1_3_0, c1_3_1]
   have r2_1_0 : w2.frozen? ⟨w.heap.size + 1, 0, none⟩ = false := by simp [go_sem, hf2, z10, z11, z12, z13, r1_0_0, r1_0_1, r1_1_0, r1_1_1, r1_2_0, r1_2_1, r1_3_0, r1_3_1]
   have c2_1_1 : w2.cell? ⟨w.heap.size + 1, 1, none⟩ = some (.int .i64 (bh)) := by simp [go_sem, hc2, z10, z11, z12, z13, c1_0_0, c1_0_1, c1_1_0, c1_1_1, c1_2_0, c1_2_1, c1_3_0, c1_3_1]
   have r2_1_1 : w2.frozen? ⟨w.heap.size + 1, 1, none⟩ = false := by simp [go_sem, hf2, z10, z11, z12, z13, r1_0_0, r1_0_1, r1_1_0, r1_1_1, r1_2_0, r1_2_1, r1_3_0, r1_3_1]
   have c2_2_0 : w2.cell? ⟨w.heap.size + 1 + 1, 0, none⟩ = some (.int .i64 (0)) := by simp [go_sem, hc2, z10, z11, z12, z13, c1_0_0, c1_0_1, c1_1_0, c1_1_1, c1_2_0, c1_2_1, c1_3_0, c1_3_1]
   have r2_2_0 : w2.frozen? ⟨w.heap.size + 1 + 1, 0, none⟩ = false := by simp [go_sem, hf2, z10, z11, z12, z13, r1_0_0, r1_0_1, r1_1_0, r1_1_1, r1_2_0, r1_2_1, r1_3_0, r1_3_1]
   have c2_2_1 : w2.cell? ⟨w.heap.size + 1 + 1, 1, none⟩ = some (.int .i64 (0)) := by simp [go_sem, hc2, z10, z11, z12, z13, c1_0_0, c1_0_1, c1_1_0, c1_1_1, c1_2_0, c1_2_1, c1_3_0, c1_3_1]
   have r2_2_1 : w2.frozen? ⟨w.heap.size + 1 + 1, 1, none⟩ = false := by simp [go_sem, hf2, z10, z11, z12, z13, r1_0_0, r1_0_1, r1_1_0, r1_1_1, r1_2_0, r1_2_1, r1_3_0, r1_3_1]
   have c2_3_0 : w2.cell? ⟨w.heap.size + 1 + 1 + 1, 0, none⟩ = some (.int .i64 (0)) := by simp [go_sem, hc2, z10, z11, z12, z13, c1_0_0, c1_0_1, c1_1_0, c1_1_1, c1_2_0, c1_2_1, c1_3_0, c1_3_1]
   have r2_3_0 : w2.frozen? ⟨w.heap.size + 1 + 1 + 1, 0, none⟩ = false := by simp [go_sem, hf2, z10, z11, z12, z13, r1_0_0, r1_0_1, r1_1_0, r1_1_1, r1_2_0, r1_2_1, r1_3_0, r1_3_1]
   have c2_3_1 : w2.cell? ⟨w.heap.size + 1 + 1 + 1, 1, none⟩ = some (.int .i64 (0)) := by simp [go_sem, hc2, z10, z11, z12, z13, c1_0_0, c1_0_1, c1_1_0, c1_1_1, c1_2_0, c1_2_1, c1_3_0, c1_3_1]
   have r2_3_1 : w2.frozen? ⟨w.heap.size + 1 + 1 + 1, 1, none⟩ = false := by simp [go_sem, hf2, z10, z11, z12, z13, r1_0_0, r1_0_1, r1_1_0, r1_1_1, r1_2_0, r1_2_1, r1_3_0, r1_3_1]
   clear hc2 hf2
   go_wp2_with fail
   go_region
   go_wp2_with fail
   exact bodyPost_ret (v := .tuple #[.agg #[.int .i64 (pl), .int .i64 (ph)], .agg #[.int .i64 (ol), .int .i64 (oh)], .bool ob]) (by simp [results, Tryz.results186, go_sem, c2_0_0, c2_0_1, c2_1_0, c2_1_1, c2_2_0, c2_2_1, c2_3_0, c2_3_1]) rfl ⟨by simp [bswap], (by repeat' (first | with_reducible (first | exact HW2.out | apply bR | apply bD | apply bN | apply bA | apply bS) | (simp; done) | (simp; omega) | omega))⟩
set_option maxHeartbeats 4000000 in
theorem Opposite_any (c : Int) (hc : P.asks c = true) (w : World) :
  Calls Tryz.prog 145 #[.int .i64 c] w fun e w' => e = .returned (.int .i64 (opp c)) ∧ w = w' := by
 have i0 : ∀ w, (Instr.index 336 (.agg #[.int .i64 16, .int .i64 15, .int .i64 20, .int .i64 19, .int .i64 18, .int .i64 17, .int .i64 24, .int .i64 23, .int .i64 22, .int .i64 21]) (.int .i64 0)).run Tryz.prog w = .ok (.int .i64 16) w := fun _ => by kernel_rfl
 have i1 : ∀ w, (Instr.index 336 (.agg #[.int .i64 16, .int .i64 15, .int .i64 20, .int .i64 19, .int .i64 18, .int .i64 17, .int .i64 24, .int .i64 23, .int .i64 22, .int .i64 21]) (.int .i64 1)).run Tryz.prog w = .ok (.int .i64 15) w := fun _ => by kernel_rfl
 have i2 : ∀ w, (Instr.index 336 (.agg #[.int .i64 16, .int .i64 15, .int .i64 20, .int .i64 19, .int .i64 18, .int .i64 17, .int .i64 24, .int .i64 23, .int .i64 22, .int .i64 21]) (.int .i64 2)).run Tryz.prog w = .ok (.int .i64 20) w := fun _ => by kernel_rfl
 have i3 : ∀ w, (Instr.index 336 (.agg #[.int .i64 16, .int .i64 15, .int .i64 20, .int .i64 19, .int .i64 18, .int .i64 17, .int .i64 24, .int .i64 23, .int .i64 22, .int .i64 21]) (.int .i64 3)).run Tryz.prog w = .ok (.int .i64 19) w := fun _ => by kernel_rfl
 have i4 : ∀ w, (Instr.index 336 (.agg #[.int .i64 16, .int .i64 15, .int .i64 20, .int .i64 19, .int .i64 18, .int .i64 17, .int .i64 24, .int .i64 23, .int .i64 22, .int .i64 21]) (.int .i64 4)).run Tryz.prog w = .ok (.int .i64 18) w := fun _ => by kernel_rfl
 have i5 : ∀ w, (Instr.index 336 (.agg #[.int .i64 16, .int .i64 15, .int .i64 20, .int .i64 19, .int .i64 18, .int .i64 17, .int .i64 24, .int .i64 23, .int .i64 22, .int .i64 21]) (.int .i64 5)).run Tryz.prog w = .ok (.int .i64 17) w := fun _ => by kernel_rfl
 have i6 : ∀ w, (Instr.index 336 (.agg #[.int .i64 16, .int .i64 15, .int .i64 20, .int .i64 19, .int .i64 18, .int .i64 17, .int .i64 24, .int .i64 23, .int .i64 22, .int .i64 21]) (.int .i64 6)).run Tryz.prog w = .ok (.int .i64 24) w := fun _ => by kernel_rfl
 have i7 : ∀ w, (Instr.index 336 (.agg #[.int .i64 16, .int .i64 15, .int .i64 20, .int .i64 19, .int .i64 18, .int .i64 17, .int .i64 24, .int .i64 23, .int .i64 22, .int .i64 21]) (.int .i64 7)).run Tryz.prog w = .ok (.int .i64 23) w := fun _ => by kernel_rfl
 have i8 : ∀ w, (Instr.index 336 (.agg #[.int .i64 16, .int .i64 15, .int .i64 20, .int .i64 19, .int .i64 18, .int .i64 17, .int .i64 24, .int .i64 23, .int .i64 22, .int .i64 21]) (.int .i64 8)).run Tryz.prog w = .ok (.int .i64 22) w := fun _ => by kernel_rfl
 have i9 : ∀ w, (Instr.index 336 (.agg #[.int .i64 16, .int .i64 15, .int .i64 20, .int .i64 19, .int .i64 18, .int .i64 17, .int .i64 24, .int .i64 23, .int .i64 22, .int .i64 21]) (.int .i64 9)).run Tryz.prog w = .ok (.int .i64 21) w := fun _ => by kernel_rfl
 rcases asks_cases hc with rfl | rfl | rfl | rfl | rfl | rfl | rfl | rfl | rfl | rfl
 all_goals
  clear hc
  go_enter Tryz.func145, Tryz.ntmps145
  go_wp2_with fail
  go_ret
  exact ⟨rfl, rfl⟩
end Go.Proofs.YtpdlmbbgioenoaaGreatDoor.W
