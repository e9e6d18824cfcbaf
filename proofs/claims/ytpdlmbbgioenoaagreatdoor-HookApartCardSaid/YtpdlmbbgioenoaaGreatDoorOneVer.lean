/- A part of the proof; each theorem states its conditions. -/
import Derived.Test.YtpdlmbbgioenoaaGreatDoorOneVerA
set_option linter.unusedSimpArgs false
set_option linter.unusedVariables false
set_option maxRecDepth 100000
namespace Go.Proofs.YtpdlmbbgioenoaaGreatDoor.W
open Go.RowKit Go.Proofs.YtpdlmbbgioenoaaGreatDoor.P
theorem beq_no {a b : Int} (h : a ≠ b) : (a == b) = false := by rw [beq_eq_false_iff_ne]; exact h
theorem bne_yes {a b : Int} (h : a ≠ b) : (a != b) = true := by rw [bne_iff_ne]; exact h
set_option maxHeartbeats 1000000 in
theorem VC_none (c ka la ha kb lb hb : Int) (h : kb = 0 ∨ (ka = 0 ∧ c ≠ 1)) (w : World) :
  Calls Tryz.prog 111 #[.int .i64 c, .agg #[.int .i64 ka, .int .i64 la, .int .i64 ha], .agg #[.int .i64 kb, .int .i64 lb, .int .i64 hb]] w fun e w' =>
   e = .returned (.tuple #[.agg #[.int .i64 0, .int .i64 0, .int .i64 0], .int .i64 8]) ∧ Below w.heap.size w w' := by
 have HW0 := Lib.hid (Below.refl w.heap.size w)
 by_cases b0 : kb = 0
 ·subst b0
  clear h
  go_enter Tryz.func111, Tryz.ntmps111
  go_wp2_with fail
  refine bodyPost_ret ?_ rfl ⟨rfl, (by repeat' (first | with_reducible (first | exact HW0.out | apply bR | apply bD | apply bN | apply bA | apply bS) | (simp; done) | (simp; omega) | omega))⟩
  simp [results, Tryz.results111, go_sem]
 ·obtain ⟨rfl, c1⟩ : ka = 0 ∧ c ≠ 1 := by omega
  have t1 := beq_no b0
  have t2 := bne_yes c1
  clear h b0 c1
  go_enter Tryz.func111, Tryz.ntmps111
  go_wp2_with fail
  refine bodyPost_ret ?_ rfl ⟨rfl, (by repeat' (first | with_reducible (first | exact HW0.out | apply bR | apply bD | apply bN | apply bA | apply bS) | (simp; done) | (simp; omega) | omega))⟩
  simp [results, Tryz.results111, go_sem]
set_option maxHeartbeats 1000000 in
theorem VC_mov (ka la ha kb lb hb : Int) (b0 : kb ≠ 0) (w : World) :
  Calls Tryz.prog 111 #[.int .i64 1, .agg #[.int .i64 ka, .int .i64 la, .int .i64 ha], .agg #[.int .i64 kb, .int .i64 lb, .int .i64 hb]] w fun e w' =>
   e = .returned (.tuple #[.agg #[.int .i64 kb, .int .i64 lb, .int .i64 hb], .int .i64 0]) ∧ Below w.heap.size w w' := by
 have HW0 := Lib.hid (Below.refl w.heap.size w)
 have t1 := beq_no b0
 clear b0
 by_cases a0 : ka = 0
 ·have t2 : (ka == 0) = true := by rw [beq_iff_eq]; exact a0
  clear a0
  go_enter Tryz.func111, Tryz.ntmps111
  go_wp2_with fail
  refine bodyPost_ret ?_ rfl ⟨rfl, (by repeat' (first | with_reducible (first | exact HW0.out | apply bR | apply bD | apply bN | apply bA | apply bS) | (simp; done) | (simp; omega) | omega))⟩
  simp [results, Tryz.results111, go_sem]
 ·have t2 := beq_no a0
  clear a0
  go_enter Tryz.func111, Tryz.ntmps111
  go_wp2_with fail
  refine bodyPost_ret ?_ rfl ⟨rfl, (by repeat' (first | with_reducible (first | exact HW0.out | apply bR | apply bD | apply bN | apply bA | apply bS) | (simp; done) | (simp; omega) | omega))⟩
  simp [results, Tryz.results111, go_sem]
set_option maxHeartbeats 2000000 in
theorem VC_num (c la ha lb hb : Int) (c1 : c ≠ 1) (oa : B.Ok ⟨la, ha⟩) (ob : B.Ok ⟨lb, hb⟩) (w : World) :
  Calls Tryz.prog 111 #[.int .i64 c, .agg #[.int .i64 1, .int .i64 la, .int .i64 ha], .agg #[.int .i64 1, .int .i64 lb, .int .i64 hb]] w fun e w' =>
   e = .returned (.tuple #[.agg #[.int .i64 1, .int .i64 (bdoes c ⟨la, ha⟩ ⟨lb, hb⟩).lo, .int .i64 (bdoes c ⟨la, ha⟩ ⟨lb, hb⟩).hi], .int .i64 0]) ∧ Below w.heap.size w w' := by
 have HW0 := Lib.hid (Below.refl w.heap.size w)
 have t1 := beq_no c1
 have t2 := bne_yes c1
 have C := Lib.hid (fun w => BDoes_any c la ha lb hb oa.1 oa.2.1 ob.1 ob.2.1 oa.2.2 ob.2.2 w)
 generalize bdoes c ⟨la, ha⟩ ⟨lb, hb⟩ = d at *
 obtain ⟨dl, dh⟩ := d
 clear c1 oa ob
 go_enter Tryz.func111, Tryz.ntmps111
 go_wp2_with fail
 refine (C.out _).mono ?_
 (rintro e w1 ⟨rfl, hb⟩; obtain ⟨hc1, hf1⟩ := bcell hb; have hz1 := hb.size; (try simp at hz1); have HW1 := Lib.hid (show Below w.heap.size w w1 from Below.trans (by repeat' (first | with_reducible (first | exact HW0.out | apply bR | apply bD | apply bN | apply bA | apply bS) | (simp; done) | (simp; omega) | omega)) (hb.mono (by first | omega | simp <;> omega))); clear hb; (try have z10 : w.heap.size < w1.heap.size := by omega); (try have z11 : w.heap.size + 1 < w1.heap.size := by omega); (try have z12 : w.heap.size + 1 + 1 < w1.heap.size := by omega); (try have z13 : w.heap.size + 1 + 1 + 1 < w1.heap.size := by omega))
 (have k1_w_heap_size_1_1_0 : w1.cell? ⟨w.heap.size + 1 + 1, 0, none⟩ = some (.int .i64 0) := (by rw [hc1 _ _ (by first | omega | simp <;> omega)]; first | (simp [go_sem]; done) | assumption | (simp [go_sem, *]; done)); have r1_w_heap_size_1_1_0 : w1.frozen? ⟨w.heap.size + 1 + 1, 0, none⟩ = false := (by rw [hf1 _ _ (by first | omega | simp <;> omega)]; first | (simp [go_sem]; done) | assumption | (simp [go_sem, *]; done)); have k1_w_heap_size_1_1_1 : w1.cell? ⟨w.heap.size + 1 + 1, 1, none⟩ = some (.int .i64 0) := (by rw [hc1 _ _ (by first | omega | simp <;> omega)]; first | (simp [go_sem]; done) | assumption | (simp [go_sem, *]; done)); have r1_w_heap_size_1_1_1 : w1.frozen? ⟨w.heap.size + 1 + 1, 1, none⟩ = false := (by rw [hf1 _ _ (by first | omega | simp <;> omega)]; first | (simp [go_sem]; done) | assumption | (simp [go_sem, *]; done)); have k1_w_heap_size_1_1_2 : w1.cell? ⟨w.heap.size + 1 + 1, 2, none⟩ = some (.int .i64 0) := (by rw [hc1 _ _ (by first | omega | simp <;> omega)]; first | (simp [go_sem]; done) | assumption | (simp [go_sem, *]; done)); have r1_w_heap_size_1_1_2 : w1.frozen? ⟨w.heap.size + 1 + 1, 2, none⟩ = false := (by rw [hf1 _ _ (by first | omega | simp <;> omega)]; first | (simp [go_sem]; done) | assumption | (simp [go_sem, *]; done)))
 clear hc1 hf1
 go_wp2_with fail
 refine (VNumber_any dl dh _).mono ?_
 (rintro e w2 ⟨rfl, hb⟩; obtain ⟨hc2, hf2⟩ := bcell hb; have hz2 := hb.size; (try simp at hz2); have HW2 := Lib.hid (show Below w.heap.size w w2 from Below.trans (by repeat' (first | with_reducible (first | exact HW1.out | apply bR | apply bD | apply bN | apply bA | apply bS) | (simp; done) | (simp; omega) | omega)) (hb.mono (by first | omega | simp <;> omega))); clear hb; (try have z20 : w.heap.size < w2.heap.size := by omega); (try have z21 : w.heap.size + 1 < w2.heap.size := by omega); (try have z22 : w.heap.size + 1 + 1 < w2.heap.size := by omega); (try have z23 : w.heap.size + 1 + 1 + 1 < w2.heap.size := by omega))
 (have k2_w_heap_size_1_1_0 : w2.cell? ⟨w.heap.size + 1 + 1, 0, none⟩ = some (.int .i64 0) := (by rw [hc2 _ _ (by first | omega | simp <;> omega)]; first | (simp [go_sem]; done) | assumption | (simp [go_sem, *]; done)); have r2_w_heap_size_1_1_0 : w2.frozen? ⟨w.heap.size + 1 + 1, 0, none⟩ = false := (by rw [hf2 _ _ (by first | omega | simp <;> omega)]; first | (simp [go_sem]; done) | assumption | (simp [go_sem, *]; done)); have k2_w_heap_size_1_1_1 : w2.cell? ⟨w.heap.size + 1 + 1, 1, none⟩ = some (.int .i64 0) := (by rw [hc2 _ _ (by first | omega | simp <;> omega)]; first | (simp [go_sem]; done) | assumption | (simp [go_sem, *]; done)); have r2_w_heap_size_1_1_1 : w2.frozen? ⟨w.heap.size + 1 + 1, 1, none⟩ = false := (by rw [hf2 _ _ (by first | omega | simp <;> omega)]; first | (simp [go_sem]; done) | assumption | (simp [go_sem, *]; done)); have k2_w_heap_size_1_1_2 : w2.cell? ⟨w.heap.size + 1 + 1, 2, none⟩ = some (.int .i64 0) := (by rw [hc2 _ _ (by first | omega | simp <;> omega)]; first | (simp [go_sem]; done) | assumption | (simp [go_sem, *]; done)); have r2_w_heap_size_1_1_2 : w2.frozen? ⟨w.heap.size + 1 + 1, 2, none⟩ = false := (by rw [hf2 _ _ (by first | omega | simp <;> omega)]; first | (simp [go_sem]; done) | assumption | (simp [go_sem, *]; done)))
 clear hc2 hf2
 go_wp2_with fail
 refine bodyPost_ret ?_ rfl ⟨rfl, (by repeat' (first | with_reducible (first | exact HW2.out | apply bR | apply bD | apply bN | apply bA | apply bS) | (simp; done) | (simp; omega) | omega))⟩
 simp [results, Tryz.results111, go_sem, *]
set_option maxHeartbeats 2000000 in
theorem VC_arg (c ka la ha kb lb hb : Int) (a0 : ka ≠ 0) (b0 : kb ≠ 0) (c1 : c ≠ 1) (n1 : ¬ (ka = 1 ∧ kb = 1)) (hn : ¬ (c = 2 ∧ ka = 1)) (h : kb ≠ 1 ∨ ka = 5 ∨ (c ≠ 2 ∧ c ≠ 3)) (w : World) :
  Calls Tryz.prog 111 #[.int .i64 c, .agg #[.int .i64 ka, .int .i64 la, .int .i64 ha], .agg #[.int .i64 kb, .int .i64 lb, .int .i64 hb]] w fun e w' =>
   e = .returned (.tuple #[.agg #[.int .i64 0, .int .i64 0, .int .i64 0], .int .i64 1]) ∧ Below w.heap.size w w' := by
 have HW0 := Lib.hid (Below.refl w.heap.size w)
 have t0 := beq_no a0; have t1 := beq_no b0; have t2 := beq_no c1; have t3 := bne_yes c1
 by_cases a1 : ka = 1 <;> by_cases b1 : kb = 1 <;> by_cases c2 : c = 2
 all_goals (first | (exfalso; omega) | skip)
 all_goals (try (have t4 := beq_no a1)); (try (have t5 := beq_no b1)); (try (have t6 := bne_yes b1)); (try (have t7 := beq_no c2)); (try (have t8 := bne_yes c2))
 all_goals (try (have r1 : (ka == 1) = true := by rw [beq_iff_eq]; exact a1)); (try (have r2 : (kb == 1) = true := by rw [beq_iff_eq]; exact b1)); (try (have r3 : (kb != 1) = false := by simp [b1])); (try (have r4 : (c == 2) = true := by rw [beq_iff_eq]; exact c2)); (try (have r5 : (c != 2) = false := by simp [c2]))
 all_goals
  by_cases a5 : ka = 5
 all_goals (first | (exfalso; omega) | skip)
 all_goals (try (have q1 := beq_no a5)); (try (have q2 : (ka == 5) = true := by rw [beq_iff_eq]; exact a5))
 all_goals (try (have q3 : (c != 3) = true := bne_yes (by omega)))
 all_goals
  clear a0 b0 c1 n1 hn h a1 b1 c2 a5
  go_enter Tryz.func111, Tryz.ntmps111
  go_wp2_with fail
 all_goals
  refine bodyPost_ret (v := .tuple #[.agg #[.int .i64 0, .int .i64 0, .int .i64 0], .int .i64 1]) ?_ rfl ⟨rfl, (by repeat' (first | with_reducible (first | exact HW0.out | apply bR | apply bD | apply bN | apply bA | apply bS) | (simp; done) | (simp; omega) | omega))⟩
  simp [results, Tryz.results111, go_sem]
set_option maxHeartbeats 2000000 in
theorem VC_maybe (la ha kb lb hb : Int) (h : kb ≠ 0 ∧ kb ≠ 1) (h5 : kb = 5) (w : World) :
  Calls Tryz.prog 111 #[.int .i64 2, .agg #[.int .i64 1, .int .i64 la, .int .i64 ha], .agg #[.int .i64 kb, .int .i64 lb, .int .i64 hb]] w fun e w' =>
   e = .returned (.tuple #[.agg #[.int .i64 0, .int .i64 0, .int .i64 0], .int .i64 1]) ∧ Below w.heap.size w w' := by
 have HW0 := Lib.hid (Below.refl w.heap.size w)
 subst h5
 clear h
 go_enter Tryz.func111, Tryz.ntmps111
 go_wp2_with fail
 refine bodyPost_ret (v := .tuple #[.agg #[.int .i64 0, .int .i64 0, .int .i64 0], .int .i64 1]) ?_ rfl ⟨rfl, (by repeat' (first | with_reducible (first | exact HW0.out | apply bR | apply bD | apply bN | apply bA | apply bS) | (simp; done) | (simp; omega) | omega))⟩
 simp [results, Tryz.results111, go_sem]
set_option maxHeartbeats 4000000 in
theorem VC_shift2 (ka la ha lb hb : Int) (hk : ka = 2 ∨ ka = 3 ∨ ka = 4) (oa : B.Ok ⟨la, ha⟩) (ob : B.Ok ⟨lb, hb⟩) (w : World) :
  Calls Tryz.prog 111 #[.int .i64 2, .agg #[.int .i64 ka, .int .i64 la, .int .i64 ha], .agg #[.int .i64 1, .int .i64 lb, .int .i64 hb]] w fun e w' =>
   e = .returned (.tuple #[.agg #[.int .i64 (if bdoes 2 ⟨la, ha⟩ ⟨lb, hb⟩ = ball then 0 else ka), .int .i64 (if bdoes 2 ⟨la, ha⟩ ⟨lb, hb⟩ = ball then 0 else (bdoes 2 ⟨la, ha⟩ ⟨lb, hb⟩).lo), .int .i64 (if bdoes 2 ⟨la, ha⟩ ⟨lb, hb⟩ = ball then 0 else (bdoes 2 ⟨la, ha⟩ ⟨lb, hb⟩).hi)], .int .i64 (if bdoes 2 ⟨la, ha⟩ ⟨lb, hb⟩ = ball then 2 else 0)]) ∧ Below w.heap.size w w' := by
 have HW0 := Lib.hid (Below.refl w.heap.size w)
 have t1 := beq_no (show ka ≠ 0 by omega); have t2 := beq_no (show ka ≠ 1 by omega); have t3 := beq_no (show ka ≠ 5 by omega)
 clear hk
 have C := Lib.hid (fun w => BDoes_any 2 la ha lb hb oa.1 oa.2.1 ob.1 ob.2.1 oa.2.2 ob.2.2 w)
 generalize bdoes 2 ⟨la, ha⟩ ⟨lb, hb⟩ = d at *
 obtain ⟨dl, dh⟩ := d
 have hd : ((⟨dl, dh⟩ : B) = ball) ↔ (dl = -9223372036854775808 ∧ dh = 9223372036854775807) := by unfold ball; simp
 have HD := Lib.hid hd
 clear oa ob hd
 have CA := Lib.hid (show ∀ wd dr os, Calls Tryz.prog 148 #[] (Go.Sort.grow (redrawn wd dr) os) fun e w' => e = .returned (.agg #[.int .i64 (-9223372036854775808), .int .i64 9223372036854775807]) ∧ ∃ p : Regrown, w' = Go.Sort.grow (redrawn wd p.d) p.os from fun wd dr os => Calls.regrown_of (All_any _))
 go_enter Tryz.func111, Tryz.ntmps111
 go_wp2_with fail
 refine (C.out _).mono ?_
 (rintro e w1 ⟨rfl, hb⟩; obtain ⟨hc1, hf1⟩ := bcell hb; have hz1 := hb.size; (try simp at hz1); have HW1 := Lib.hid (show Below w.heap.size w w1 from Below.trans (by repeat' (first | with_reducible (first | exact HW0.out | apply bR | apply bD | apply bN | apply bA | apply bS) | (simp; done) | (simp; omega) | omega)) (hb.mono (by first | omega | simp <;> omega))); clear hb; (try have z10 : w.heap.size < w1.heap.size := by omega); (try have z11 : w.heap.size + 1 < w1.heap.size := by omega); (try have z12 : w.heap.size + 1 + 1 < w1.heap.size := by omega); (try have z13 : w.heap.size + 1 + 1 + 1 < w1.heap.size := by omega))
 (have k1_w_heap_size_0 : w1.cell? ⟨w.heap.size, 0, none⟩ = some (.int .i64 ka) := (by rw [hc1 _ _ (by first | omega | simp <;> omega)]; first | (simp [go_sem]; done) | assumption | (simp [go_sem, *]; done)); have r1_w_heap_size_0 : w1.frozen? ⟨w.heap.size, 0, none⟩ = false := (by rw [hf1 _ _ (by first | omega | simp <;> omega)]; first | (simp [go_sem]; done) | assumption | (simp [go_sem, *]; done)); have k1_w_heap_size_1 : w1.cell? ⟨w.heap.size, 1, none⟩ = some (.int .i64 la) := (by rw [hc1 _ _ (by first | omega | simp <;> omega)]; first | (simp [go_sem]; done) | assumption | (simp [go_sem, *]; done)); have r1_w_heap_size_1 : w1.frozen? ⟨w.heap.size, 1, none⟩ = false := (by rw [hf1 _ _ (by first | omega | simp <;> omega)]; first | (simp [go_sem]; done) | assumption | (simp [go_sem, *]; done)); have k1_w_heap_size_2 : w1.cell? ⟨w.heap.size, 2, none⟩ = some (.int .i64 ha) := (by rw [hc1 _ _ (by first | omega | simp <;> omega)]; first | (simp [go_sem]; done) | assumption | (simp [go_sem, *]; done)); have r1_w_heap_size_2 : w1.frozen? ⟨w.heap.size, 2, none⟩ = false := (by rw [hf1 _ _ (by first | omega | simp <;> omega)]; first | (simp [go_sem]; done) | assumption | (simp [go_sem, *]; done)))
 (have k1_w_heap_size_1_0 : w1.cell? ⟨w.heap.size + 1, 0, none⟩ = some (.int .i64 1) := (by rw [hc1 _ _ (by first | omega | simp <;> omega)]; first | (simp [go_sem]; done) | assumption | (simp [go_sem, *]; done)); have r1_w_heap_size_1_0 : w1.frozen? ⟨w.heap.size + 1, 0, none⟩ = false := (by rw [hf1 _ _ (by first | omega | simp <;> omega)]; first | (simp [go_sem]; done) | assumption | (simp [go_sem, *]; done)); have k1_w_heap_size_1_1 : w1.cell? ⟨w.heap.size + 1, 1, none⟩ = some (.int .i64 lb) := (by rw [hc1 _ _ (by first | omega | simp <;> omega)]; first | (simp [go_sem]; done) | assumption | (simp [go_sem, *]; done)); have r1_w_heap_size_1_1 : w1.frozen? ⟨w.heap.size + 1, 1, none⟩ = false := (by rw [hf1 _ _ (by first | omega | simp <;> omega)]; first | (simp [go_sem]; done) | assumption | (simp [go_sem, *]; done)); have k1_w_heap_size_1_2 : w1.cell? ⟨w.heap.size + 1, 2, none⟩ = some (.int .i64 hb) := (by rw [hc1 _ _ (by first | omega | simp <;> omega)]; first | (simp [go_sem]; done) | assumption | (simp [go_sem, *]; done)); have r1_w_heap_size_1_2 : w1.frozen? ⟨w.heap.size + 1, 2, none⟩ = false := (by rw [hf1 _ _ (by first | omega | simp <;> omega)]; first | (simp [go_sem]; done) | assumption | (simp [go_sem, *]; done)))
 (have k1_w_heap_size_1_1_0 : w1.cell? ⟨w.heap.size + 1 + 1, 0, none⟩ = some (.int .i64 0) := (by rw [hc1 _ _ (by first | omega | simp <;> omega)]; first | (simp [go_sem]; done) | assumption | (simp [go_sem, *]; done)); have r1_w_heap_size_1_1_0 : w1.frozen? ⟨w.heap.size + 1 + 1, 0, none⟩ = false := (by rw [hf1 _ _ (by first | omega | simp <;> omega)]; first | (simp [go_sem]; done) | assumption | (simp [go_sem, *]; done)); have k1_w_heap_size_1_1_1 : w1.cell? ⟨w.heap.size + 1 + 1, 1, none⟩ = some (.int .i64 0) := (by rw [hc1 _ _ (by first | omega | simp <;> omega)]; first | (simp [go_sem]; done) | assumption | (simp [go_sem, *]; done)); have r1_w_heap_size_1_1_1 : w1.frozen? ⟨w.heap.size + 1 + 1, 1, none⟩ = false := (by rw [hf1 _ _ (by first | omega | simp <;> omega)]; first | (simp [go_sem]; done) | assumption | (simp [go_sem, *]; done)); have k1_w_heap_size_1_1_2 : w1.cell? ⟨w.heap.size + 1 + 1, 2, none⟩ = some (.int .i64 0) := (by rw [hc1 _ _ (by first | omega | simp <;> omega)]; first | (simp [go_sem]; done) | assumption | (simp [go_sem, *]; done)); have r1_w_heap_size_1_1_2 : w1.frozen? ⟨w.heap.size + 1 + 1, 2, none⟩ = false := (by rw [hf1 _ _ (by first | omega | simp <;> omega)]; first | (simp [go_sem]; done) | assumption | (simp [go_sem, *]; done)))
 clear hc1 hf1
 go_wp2_with fail
 generalize hW : World.alloc w1 _ = wd
 have HB1 := Lib.hid (show Below w.heap.size w wd from hW ▸ HW1.out.alloc (by omega) _)
 have zd : w1.heap.size < wd.heap.size := by rw [← hW]; simp
 have d0 : wd.cell? ⟨w1.heap.size, 0, none⟩ = some (.int .i64 dl) := by rw [← hW]; simp [go_sem]
 have d1 : wd.cell? ⟨w1.heap.size, 1, none⟩ = some (.int .i64 dh) := by rw [← hW]; simp [go_sem]
 have hb2 : Below w1.heap.size w1 wd := hW ▸ (Below.refl _ _).alloc (Nat.le_refl _) _
 have a0 := (hb2.cell (p := ⟨w.heap.size, 0, none⟩) z10).trans k1_w_heap_size_0
 have b0 := (hb2.cell (p := ⟨w.heap.size + 1 + 1, 0, none⟩) z12).trans k1_w_heap_size_1_1_0
 have b1 := (hb2.cell (p := ⟨w.heap.size + 1 + 1, 1, none⟩) z12).trans k1_w_heap_size_1_1_1
 have b2 := (hb2.cell (p := ⟨w.heap.size + 1 + 1, 2, none⟩) z12).trans k1_w_heap_size_1_1_2
 have c0 := (hb2.frozen (p := ⟨w.heap.size + 1 + 1, 0, none⟩) z12).trans r1_w_heap_size_1_1_0
 have c1 := (hb2.frozen (p := ⟨w.heap.size + 1 + 1, 1, none⟩) z12).trans r1_w_heap_size_1_1_1
 have c2 := (hb2.frozen (p := ⟨w.heap.size + 1 + 1, 2, none⟩) z12).trans r1_w_heap_size_1_1_2
 have z0 : w.heap.size < wd.heap.size := by omega
 have z2 : w.heap.size + 1 + 1 < wd.heap.size := by omega
 clear hW hb2 k1_w_heap_size_0 r1_w_heap_size_0 k1_w_heap_size_1 r1_w_heap_size_1 k1_w_heap_size_2 r1_w_heap_size_2 k1_w_heap_size_1_0 r1_w_heap_size_1_0 k1_w_heap_size_1_1 r1_w_heap_size_1_1 k1_w_heap_size_1_2 r1_w_heap_size_1_2 k1_w_heap_size_1_1_0 r1_w_heap_size_1_1_0 k1_w_heap_size_1_1_1 r1_w_heap_size_1_1_1 k1_w_heap_size_1_1_2 r1_w_heap_size_1_1_2
 have k0 := cell_regrown d0; have k1 := cell_regrown d1
 refine wp_below_tail 2 (by kernel_rfl) (by kernel_rfl) ?_
 repeat (quiet_step (first | exact CA.out _ _ _))
 refine wpQuiet_nil ?_
 intro wq hwq
 have hbq : Below wd.heap.size wd wq := by
  obtain ⟨p, hp⟩ := hwq
  rw [hp]; exact below_regrown _ _ _
 clear hwq k0 k1
 replace d0 := (hbq.cell (p := ⟨w1.heap.size, 0, none⟩) zd).trans d0
 replace d1 := (hbq.cell (p := ⟨w1.heap.size, 1, none⟩) zd).trans d1
 replace a0 := (hbq.cell (p := ⟨w.heap.size, 0, none⟩) z0).trans a0
 replace b0 := (hbq.cell (p := ⟨w.heap.size + 1 + 1, 0, none⟩) z2).trans b0
 replace b1 := (hbq.cell (p := ⟨w.heap.size + 1 + 1, 1, none⟩) z2).trans b1
 replace b2 := (hbq.cell (p := ⟨w.heap.size + 1 + 1, 2, none⟩) z2).trans b2
 replace c0 := (hbq.frozen (p := ⟨w.heap.size + 1 + 1, 0, none⟩) z2).trans c0
 replace c1 := (hbq.frozen (p := ⟨w.heap.size + 1 + 1, 1, none⟩) z2).trans c1
 replace c2 := (hbq.frozen (p := ⟨w.heap.size + 1 + 1, 2, none⟩) z2).trans c2
 have HWQ := Lib.hid (HB1.out.trans (hbq.mono (by omega)))
 have y0 : w.heap.size < wq.heap.size := by have := hbq.size; omega
 clear hbq HB1 HW1
 by_cases e : dl = -9223372036854775808 ∧ dh = 9223372036854775807
 ·have yes := Lib.hid (HD.out.2 e)
  obtain ⟨rfl, rfl⟩ := e
  go_wp2_with fail
  refine bodyPost_ret (v := .tuple #[.agg #[.int .i64 0, .int .i64 0, .int .i64 0], .int .i64 2]) ?_ rfl ⟨by have ye := yes.out; first | rfl | simp [ye], (by repeat' (first | with_reducible (first | exact HWQ.out | apply bR | apply bD | apply bN | apply bA | apply bS) | (simp; done) | (simp; omega) | omega))⟩
  simp [results, Tryz.results111, go_sem, *]
 ·have NE := Lib.hid (show ¬ ((⟨dl, dh⟩ : B) = ball) from fun h => e (HD.out.1 h))
  clear HD
  by_cases e1 : dl = -9223372036854775808
  ·have e2 : ¬ dh = 9223372036854775807 := fun h => e ⟨e1, h⟩
   subst e1
   have e3 := beq_no e2
   clear e e2
   go_wp2_with fail
   refine bodyPost_ret (v := .tuple #[.agg #[.int .i64 ka, .int .i64 (-9223372036854775808), .int .i64 dh], .int .i64 0]) ?_ rfl ⟨by have ne := NE.out; first | rfl | simp [ne], (by repeat' (first | with_reducible (first | exact HWQ.out | apply bR | apply bD | apply bN | apply bA | apply bS) | (simp; done) | (simp; omega) | omega))⟩
   simp [results, Tryz.results111, go_sem, *]
  ·have e3 := beq_no e1
   clear e e1
   go_wp2_with fail
   refine bodyPost_ret (v := .tuple #[.agg #[.int .i64 ka, .int .i64 dl, .int .i64 dh], .int .i64 0]) ?_ rfl ⟨by have ne := NE.out; first | rfl | simp [ne], (by repeat' (first | with_reducible (first | exact HWQ.out | apply bR | apply bD | apply bN | apply bA | apply bS) | (simp; done) | (simp; omega) | omega))⟩
   simp [results, Tryz.results111, go_sem, *]
set_option maxHeartbeats 4000000 in
theorem VC_shift3 (ka la ha lb hb : Int) (hk : ka = 2 ∨ ka = 3 ∨ ka = 4) (oa : B.Ok ⟨la, ha⟩) (ob : B.Ok ⟨lb, hb⟩) (w : World) :
  Calls Tryz.prog 111 #[.int .i64 3, .agg #[.int .i64 ka, .int .i64 la, .int .i64 ha], .agg #[.int .i64 1, .int .i64 lb, .int .i64 hb]] w fun e w' =>
   e = .returned (.tuple #[.agg #[.int .i64 (if bdoes 3 ⟨la, ha⟩ ⟨lb, hb⟩ = ball then 0 else ka), .int .i64 (if bdoes 3 ⟨la, ha⟩ ⟨lb, hb⟩ = ball then 0 else (bdoes 3 ⟨la, ha⟩ ⟨lb, hb⟩).lo), .int .i64 (if bdoes 3 ⟨la, ha⟩ ⟨lb, hb⟩ = ball then 0 else (bdoes 3 ⟨la, ha⟩ ⟨lb, hb⟩).hi)], .int .i64 (if bdoes 3 ⟨la, ha⟩ ⟨lb, hb⟩ = ball then 2 else 0)]) ∧ Below w.heap.size w w' := by
 have HW0 := Lib.hid (Below.refl w.heap.size w)
 have t1 := beq_no (show ka ≠ 0 by omega); have t2 := beq_no (show ka ≠ 1 by omega); have t3 := beq_no (show ka ≠ 5 by omega)
 clear hk
 have C := Lib.hid (fun w => BDoes_any 3 la ha lb hb oa.1 oa.2.1 ob.1 ob.2.1 oa.2.2 ob.2.2 w)
 generalize bdoes 3 ⟨la, ha⟩ ⟨lb, hb⟩ = d at *
 obtain ⟨dl, dh⟩ := d
 have hd : ((⟨dl, dh⟩ : B) = ball) ↔ (dl = -9223372036854775808 ∧ dh = 9223372036854775807) := by unfold ball; simp
 have HD := Lib.hid hd
 clear oa ob hd
 have CA := Lib.hid (show ∀ wd dr os, Calls Tryz.prog 148 #[] (Go.Sort.grow (redrawn wd dr) os) fun e w' => e = .returned (.agg #[.int .i64 (-9223372036854775808), .int .i64 9223372036854775807]) ∧ ∃ p : Regrown, w' = Go.Sort.grow (redrawn wd p.d) p.os from fun wd dr os => Calls.regrown_of (All_any _))
 go_enter Tryz.func111, Tryz.ntmps111
 go_wp2_with fail
 refine (C.out _).mono ?_
 (rintro e w1 ⟨rfl, hb⟩; obtain ⟨hc1, hf1⟩ := bcell hb; have hz1 := hb.size; (try simp at hz1); have HW1 := Lib.hid (show Below w.heap.size w w1 from Below.trans (by repeat' (first | with_reducible (first | exact HW0.out | apply bR | apply bD | apply bN | apply bA | apply bS) | (simp; done) | (simp; omega) | omega)) (hb.mono (by first | omega | simp <;> omega))); clear hb; (try have z10 : w.heap.size < w1.heap.size := by omega); (try have z11 : w.heap.size + 1 < w1.heap.size := by omega); (try have z12 : w.heap.size + 1 + 1 < w1.heap.size := by omega); (try have z13 : w.heap.size + 1 + 1 + 1 < w1.heap.size := by omega))
 (have k1_w_heap_size_0 : w1.cell? ⟨w.heap.size, 0, none⟩ = some (.int .i64 ka) := (by rw [hc1 _ _ (by first | omega | simp <;> omega)]; first | (simp [go_sem]; done) | assumption | (simp [go_sem, *]; done)); have r1_w_heap_size_0 : w1.frozen? ⟨w.heap.size, 0, none⟩ = false := (by rw [hf1 _ _ (by first | omega | simp <;> omega)]; first | (simp [go_sem]; done) | assumption | (simp [go_sem, *]; done)); have k1_w_heap_size_1 : w1.cell? ⟨w.heap.size, 1, none⟩ = some (.int .i64 la) := (by rw [hc1 _ _ (by first | omega | simp <;> omega)]; first | (simp [go_sem]; done) | assumption | (simp [go_sem, *]; done)); have r1_w_heap_size_1 : w1.frozen? ⟨w.heap.size, 1, none⟩ = false := (by rw [hf1 _ _ (by first | omega | simp <;> omega)]; first | (simp [go_sem]; done) | assumption | (simp [go_sem, *]; done)); have k1_w_heap_size_2 : w1.cell? ⟨w.heap.size, 2, none⟩ = some (.int .i64 ha) := (by rw [hc1 _ _ (by first | omega | simp <;> omega)]; first | (simp [go_sem]; done) | assumption | (simp [go_sem, *]; done)); have r1_w_heap_size_2 : w1.frozen? ⟨w.heap.size, 2, none⟩ = false := (by rw [hf1 _ _ (by first | omega | simp <;> omega)]; first | (simp [go_sem]; done) | assumption | (simp [go_sem, *]; done)))
 (have k1_w_heap_size_1_0 : w1.cell? ⟨w.heap.size + 1, 0, none⟩ = some (.int .i64 1) := (by rw [hc1 _ _ (by first | omega | simp <;> omega)]; first | (simp [go_sem]; done) | assumption | (simp [go_sem, *]; done)); have r1_w_heap_size_1_0 : w1.frozen? ⟨w.heap.size + 1, 0, none⟩ = false := (by rw [hf1 _ _ (by first | omega | simp <;> omega)]; first | (simp [go_sem]; done) | assumption | (simp [go_sem, *]; done)); have k1_w_heap_size_1_1 : w1.cell? ⟨w.heap.size + 1, 1, none⟩ = some (.int .i64 lb) := (by rw [hc1 _ _ (by first | omega | simp <;> omega)]; first | (simp [go_sem]; done) | assumption | (simp [go_sem, *]; done)); have r1_w_heap_size_1_1 : w1.frozen? ⟨w.heap.size + 1, 1, none⟩ = false := (by rw [hf1 _ _ (by first | omega | simp <;> omega)]; first | (simp [go_sem]; done) | assumption | (simp [go_sem, *]; done)); have k1_w_heap_size_1_2 : w1.cell? ⟨w.heap.size + 1, 2, none⟩ = some (.int .i64 hb) := (by rw [hc1 _ _ (by first | omega | simp <;> omega)]; first | (simp [go_sem]; done) | assumption | (simp [go_sem, *]; done)); have r1_w_heap_size_1_2 : w1.frozen? ⟨w.heap.size + 1, 2, none⟩ = false := (by rw [hf1 _ _ (by first | omega | simp <;> omega)]; first | (simp [go_sem]; done) | assumption | (simp [go_sem, *]; done)))
 (have k1_w_heap_size_1_1_0 : w1.cell? ⟨w.heap.size + 1 + 1, 0, none⟩ = some (.int .i64 0) := (by rw [hc1 _ _ (by first | omega | simp <;> omega)]; first | (simp [go_sem]; done) | assumption | (simp [go_sem, *]; done)); have r1_w_heap_size_1_1_0 : w1.frozen? ⟨w.heap.size + 1 + 1, 0, none⟩ = false := (by rw [hf1 _ _ (by first | omega | simp <;> omega)]; first | (simp [go_sem]; done) | assumption | (simp [go_sem, *]; done)); have k1_w_heap_size_1_1_1 : w1.cell? ⟨w.heap.size + 1 + 1, 1, none⟩ = some (.int .i64 0) := (by rw [hc1 _ _ (by first | omega | simp <;> omega)]; first | (simp [go_sem]; done) | assumption | (simp [go_sem, *]; done)); have r1_w_heap_size_1_1_1 : w1.frozen? ⟨w.heap.size + 1 + 1, 1, none⟩ = false := (by rw [hf1 _ _ (by first | omega | simp <;> omega)]; first | (simp [go_sem]; done) | assumption | (simp [go_sem, *]; done)); have k1_w_heap_size_1_1_2 : w1.cell? ⟨w.heap.size + 1 + 1, 2, none⟩ = some (.int .i64 0) := (by rw [hc1 _ _ (by first | omega | simp <;> omega)]; first | (simp [go_sem]; done) | assumption | (simp [go_sem, *]; done)); have r1_w_heap_size_1_1_2 : w1.frozen? ⟨w.heap.size + 1 + 1, 2, none⟩ = false := (by rw [hf1 _ _ (by first | omega | simp <;> omega)]; first | (simp [go_sem]; done) | assumption | (simp [go_sem, *]; done)))
 clear hc1 hf1
 go_wp2_with fail
 generalize hW : World.alloc w1 _ = wd
 have HB1 := Lib.hid (show Below w.heap.size w wd from hW ▸ HW1.out.alloc (by omega) _)
 have zd : w1.heap.size < wd.heap.size := by rw [← hW]; simp
 have d0 : wd.cell? ⟨w1.heap.size, 0, none⟩ = some (.int .i64 dl) := by rw [← hW]; simp [go_sem]
 have d1 : wd.cell? ⟨w1.heap.size, 1, none⟩ = some (.int .i64 dh) := by rw [← hW]; simp [go_sem]
 have hb2 : Below w1.heap.size w1 wd := hW ▸ (Below.refl _ _).alloc (Nat.le_refl _) _
 have a0 := (hb2.cell (p := ⟨w.heap.size, 0, none⟩) z10).trans k1_w_heap_size_0
 have b0 := (hb2.cell (p := ⟨w.heap.size + 1 + 1, 0, none⟩) z12).trans k1_w_heap_size_1_1_0
 have b1 := (hb2.cell (p := ⟨w.heap.size + 1 + 1, 1, none⟩) z12).trans k1_w_heap_size_1_1_1
 have b2 := (hb2.cell (p := ⟨w.heap.size + 1 + 1, 2, none⟩) z12).trans k1_w_heap_size_1_1_2
 have c0 := (hb2.frozen (p := ⟨w.heap.size + 1 + 1, 0, none⟩) z12).trans r1_w_heap_size_1_1_0
 have c1 := (hb2.frozen (p := ⟨w.heap.size + 1 + 1, 1, none⟩) z12).trans r1_w_heap_size_1_1_1
 have c2 := (hb2.frozen (p := ⟨w.heap.size + 1 + 1, 2, none⟩) z12).trans r1_w_heap_size_1_1_2
 have z0 : w.heap.size < wd.heap.size := by omega
 have z2 : w.heap.size + 1 + 1 < wd.heap.size := by omega
 clear hW hb2 k1_w_heap_size_0 r1_w_heap_size_0 k1_w_heap_size_1 r1_w_heap_size_1 k1_w_heap_size_2 r1_w_heap_size_2 k1_w_heap_size_1_0 r1_w_heap_size_1_0 k1_w_heap_size_1_1 r1_w_heap_size_1_1 k1_w_heap_size_1_2 r1_w_heap_size_1_2 k1_w_heap_size_1_1_0 r1_w_heap_size_1_1_0 k1_w_heap_size_1_1_1 r1_w_heap_size_1_1_1 k1_w_heap_size_1_1_2 r1_w_heap_size_1_1_2
 have k0 := cell_regrown d0; have k1 := cell_regrown d1
 refine wp_below_tail 2 (by kernel_rfl) (by kernel_rfl) ?_
 repeat (quiet_step (first | exact CA.out _ _ _))
 refine wpQuiet_nil ?_
 intro wq hwq
 have hbq : Below wd.heap.size wd wq := by
  obtain ⟨p, hp⟩ := hwq
  rw [hp]; exact below_regrown _ _ _
 clear hwq k0 k1
 replace d0 := (hbq.cell (p := ⟨w1.heap.size, 0, none⟩) zd).trans d0
 replace d1 := (hbq.cell (p := ⟨w1.heap.size, 1, none⟩) zd).trans d1
 replace a0 := (hbq.cell (p := ⟨w.heap.size, 0, none⟩) z0).trans a0
 replace b0 := (hbq.cell (p := ⟨w.heap.size + 1 + 1, 0, none⟩) z2).trans b0
 replace b1 := (hbq.cell (p := ⟨w.heap.size + 1 + 1, 1, none⟩) z2).trans b1
 replace b2 := (hbq.cell (p := ⟨w.heap.size + 1 + 1, 2, none⟩) z2).trans b2
 replace c0 := (hbq.frozen (p := ⟨w.heap.size + 1 + 1, 0, none⟩) z2).trans c0
 replace c1 := (hbq.frozen (p := ⟨w.heap.size + 1 + 1, 1, none⟩) z2).trans c1
 replace c2 := (hbq.frozen (p := ⟨w.heap.size + 1 + 1, 2, none⟩) z2).trans c2
 have HWQ := Lib.hid (HB1.out.trans (hbq.mono (by omega)))
 have y0 : w.heap.size < wq.heap.size := by have := hbq.size; omega
 clear hbq HB1 HW1
 by_cases e : dl = -9223372036854775808 ∧ dh = 9223372036854775807
 ·have yes := Lib.hid (HD.out.2 e)
  obtain ⟨rfl, rfl⟩ := e
  go_wp2_with fail
  refine bodyPost_ret (v := .tuple #[.agg #[.int .i64 0, .int .i64 0, .int .i64 0], .int .i64 2]) ?_ rfl ⟨by have ye := yes.out; first | rfl | simp [ye], (by repeat' (first | with_reducible (first | exact HWQ.out | apply bR | apply bD | apply bN | apply bA | apply bS) | (simp; done) | (simp; omega) | omega))⟩
  simp [results, Tryz.results111, go_sem, *]
 ·have NE := Lib.hid (show ¬ ((⟨dl, dh⟩ : B) = ball) from fun h => e (HD.out.1 h))
  clear HD
  by_cases e1 : dl = -9223372036854775808
  ·have e2 : ¬ dh = 9223372036854775807 := fun h => e ⟨e1, h⟩
   subst e1
   have e3 := beq_no e2
   clear e e2
   go_wp2_with fail
   refine bodyPost_ret (v := .tuple #[.agg #[.int .i64 ka, .int .i64 (-9223372036854775808), .int .i64 dh], .int .i64 0]) ?_ rfl ⟨by have ne := NE.out; first | rfl | simp [ne], (by repeat' (first | with_reducible (first | exact HWQ.out | apply bR | apply bD | apply bN | apply bA | apply bS) | (simp; done) | (simp; omega) | omega))⟩
   simp [results, Tryz.results111, go_sem, *]
  ·have e3 := beq_no e1
   clear e e1
   go_wp2_with fail
   refine bodyPost_ret (v := .tuple #[.agg #[.int .i64 ka, .int .i64 dl, .int .i64 dh], .int .i64 0]) ?_ rfl ⟨by have ne := NE.out; first | rfl | simp [ne], (by repeat' (first | with_reducible (first | exact HWQ.out | apply bR | apply bD | apply bN | apply bA | apply bS) | (simp; done) | (simp; omega) | omega))⟩
   simp [results, Tryz.results111, go_sem, *]
set_option maxHeartbeats 4000000 in
theorem VC_swap (la ha kb lb hb : Int) (hk : kb = 2 ∨ kb = 3 ∨ kb = 4) (oa : B.Ok ⟨la, ha⟩) (ob : B.Ok ⟨lb, hb⟩) (w : World) :
  Calls Tryz.prog 111 #[.int .i64 2, .agg #[.int .i64 1, .int .i64 la, .int .i64 ha], .agg #[.int .i64 kb, .int .i64 lb, .int .i64 hb]] w fun e w' =>
   e = .returned (.tuple #[.agg #[.int .i64 (if bdoes 2 ⟨lb, hb⟩ ⟨la, ha⟩ = ball then 0 else kb), .int .i64 (if bdoes 2 ⟨lb, hb⟩ ⟨la, ha⟩ = ball then 0 else (bdoes 2 ⟨lb, hb⟩ ⟨la, ha⟩).lo), .int .i64 (if bdoes 2 ⟨lb, hb⟩ ⟨la, ha⟩ = ball then 0 else (bdoes 2 ⟨lb, hb⟩ ⟨la, ha⟩).hi)], .int .i64 (if bdoes 2 ⟨lb, hb⟩ ⟨la, ha⟩ = ball then 2 else 0)]) ∧ Below w.heap.size w w' := by
 have HW0 := Lib.hid (Below.refl w.heap.size w)
 have t1 := beq_no (show kb ≠ 0 by omega); have t2 := beq_no (show kb ≠ 1 by omega); have t3 := beq_no (show kb ≠ 5 by omega)
 clear hk
 have C := Lib.hid (fun w => BDoes_any 2 lb hb la ha ob.1 ob.2.1 oa.1 oa.2.1 ob.2.2 oa.2.2 w)
 generalize bdoes 2 ⟨lb, hb⟩ ⟨la, ha⟩ = d at *
 obtain ⟨dl, dh⟩ := d
 have hd : ((⟨dl, dh⟩ : B) = ball) ↔ (dl = -9223372036854775808 ∧ dh = 9223372036854775807) := by unfold ball; simp
 have HD := Lib.hid hd
 clear oa ob hd
 have CA := Lib.hid (show ∀ wd dr os, Calls Tryz.prog 148 #[] (Go.Sort.grow (redrawn wd dr) os) fun e w' => e = .returned (.agg #[.int .i64 (-9223372036854775808), .int .i64 9223372036854775807]) ∧ ∃ p : Regrown, w' = Go.Sort.grow (redrawn wd p.d) p.os from fun wd dr os => Calls.regrown_of (All_any _))
 go_enter Tryz.func111, Tryz.ntmps111
 go_wp2_with fail
 refine (C.out _).mono ?_
 (rintro e w1 ⟨rfl, hb⟩; obtain ⟨hc1, hf1⟩ := bcell hb; have hz1 := hb.size; (try simp at hz1); have HW1 := Lib.hid (show Below w.heap.size w w1 from Below.trans (by repeat' (first | with_reducible (first | exact HW0.out | apply bR | apply bD | apply bN | apply bA | apply bS) | (simp; done) | (simp; omega) | omega)) (hb.mono (by first | omega | simp <;> omega))); clear hb; (try have z10 : w.heap.size < w1.heap.size := by omega); (try have z11 : w.heap.size + 1 < w1.heap.size := by omega); (try have z12 : w.heap.size + 1 + 1 < w1.heap.size := by omega); (try have z13 : w.heap.size + 1 + 1 + 1 < w1.heap.size := by omega))
 (have k1_w_heap_size_0 : w1.cell? ⟨w.heap.size, 0, none⟩ = some (.int .i64 kb) := (by rw [hc1 _ _ (by first | omega | simp <;> omega)]; first | (simp [go_sem]; done) | assumption | (simp [go_sem, *]; done)); have r1_w_heap_size_0 : w1.frozen? ⟨w.heap.size, 0, none⟩ = false := (by rw [hf1 _ _ (by first | omega | simp <;> omega)]; first | (simp [go_sem]; done) | assumption | (simp [go_sem, *]; done)); have k1_w_heap_size_1 : w1.cell? ⟨w.heap.size, 1, none⟩ = some (.int .i64 lb) := (by rw [hc1 _ _ (by first | omega | simp <;> omega)]; first | (simp [go_sem]; done) | assumption | (simp [go_sem, *]; done)); have r1_w_heap_size_1 : w1.frozen? ⟨w.heap.size, 1, none⟩ = false := (by rw [hf1 _ _ (by first | omega | simp <;> omega)]; first | (simp [go_sem]; done) | assumption | (simp [go_sem, *]; done)); have k1_w_heap_size_2 : w1.cell? ⟨w.heap.size, 2, none⟩ = some (.int .i64 hb) := (by rw [hc1 _ _ (by first | omega | simp <;> omega)]; first | (simp [go_sem]; done) | assumption | (simp [go_sem, *]; done)); have r1_w_heap_size_2 : w1.frozen? ⟨w.heap.size, 2, none⟩ = false := (by rw [hf1 _ _ (by first | omega | simp <;> omega)]; first | (simp [go_sem]; done) | assumption | (simp [go_sem, *]; done)))
 (have k1_w_heap_size_1_0 : w1.cell? ⟨w.heap.size + 1, 0, none⟩ = some (.int .i64 1) := (by rw [hc1 _ _ (by first | omega | simp <;> omega)]; first | (simp [go_sem]; done) | assumption | (simp [go_sem, *]; done)); have r1_w_heap_size_1_0 : w1.frozen? ⟨w.heap.size + 1, 0, none⟩ = false := (by rw [hf1 _ _ (by first | omega | simp <;> omega)]; first | (simp [go_sem]; done) | assumption | (simp [go_sem, *]; done)); have k1_w_heap_size_1_1 : w1.cell? ⟨w.heap.size + 1, 1, none⟩ = some (.int .i64 la) := (by rw [hc1 _ _ (by first | omega | simp <;> omega)]; first | (simp [go_sem]; done) | assumption | (simp [go_sem, *]; done)); have r1_w_heap_size_1_1 : w1.frozen? ⟨w.heap.size + 1, 1, none⟩ = false := (by rw [hf1 _ _ (by first | omega | simp <;> omega)]; first | (simp [go_sem]; done) | assumption | (simp [go_sem, *]; done)); have k1_w_heap_size_1_2 : w1.cell? ⟨w.heap.size + 1, 2, none⟩ = some (.int .i64 ha) := (by rw [hc1 _ _ (by first | omega | simp <;> omega)]; first | (simp [go_sem]; done) | assumption | (simp [go_sem, *]; done)); have r1_w_heap_size_1_2 : w1.frozen? ⟨w.heap.size + 1, 2, none⟩ = false := (by rw [hf1 _ _ (by first | omega | simp <;> omega)]; first | (simp [go_sem]; done) | assumption | (simp [go_sem, *]; done)))
 (have k1_w_heap_size_1_1_0 : w1.cell? ⟨w.heap.size + 1 + 1, 0, none⟩ = some (.int .i64 0) := (by rw [hc1 _ _ (by first | omega | simp <;> omega)]; first | (simp [go_sem]; done) | assumption | (simp [go_sem, *]; done)); have r1_w_heap_size_1_1_0 : w1.frozen? ⟨w.heap.size + 1 + 1, 0, none⟩ = false := (by rw [hf1 _ _ (by first | omega | simp <;> omega)]; first | (simp [go_sem]; done) | assumption | (simp [go_sem, *]; done)); have k1_w_heap_size_1_1_1 : w1.cell? ⟨w.heap.size + 1 + 1, 1, none⟩ = some (.int .i64 0) := (by rw [hc1 _ _ (by first | omega | simp <;> omega)]; first | (simp [go_sem]; done) | assumption | (simp [go_sem, *]; done)); have r1_w_heap_size_1_1_1 : w1.frozen? ⟨w.heap.size + 1 + 1, 1, none⟩ = false := (by rw [hf1 _ _ (by first | omega | simp <;> omega)]; first | (simp [go_sem]; done) | assumption | (simp [go_sem, *]; done)); have k1_w_heap_size_1_1_2 : w1.cell? ⟨w.heap.size + 1 + 1, 2, none⟩ = some (.int .i64 0) := (by rw [hc1 _ _ (by first | omega | simp <;> omega)]; first | (simp [go_sem]; done) | assumption | (simp [go_sem, *]; done)); have r1_w_heap_size_1_1_2 : w1.frozen? ⟨w.heap.size + 1 + 1, 2, none⟩ = false := (by rw [hf1 _ _ (by first | omega | simp <;> omega)]; first | (simp [go_sem]; done) | assumption | (simp [go_sem, *]; done)))
 clear hc1 hf1
 go_wp2_with fail
 generalize hW : World.alloc w1 _ = wd
 have HB1 := Lib.hid (show Below w.heap.size w wd from hW ▸ HW1.out.alloc (by omega) _)
 have zd : w1.heap.size < wd.heap.size := by rw [← hW]; simp
 have d0 : wd.cell? ⟨w1.heap.size, 0, none⟩ = some (.int .i64 dl) := by rw [← hW]; simp [go_sem]
 have d1 : wd.cell? ⟨w1.heap.size, 1, none⟩ = some (.int .i64 dh) := by rw [← hW]; simp [go_sem]
 have hb2 : Below w1.heap.size w1 wd := hW ▸ (Below.refl _ _).alloc (Nat.le_refl _) _
 have a0 := (hb2.cell (p := ⟨w.heap.size, 0, none⟩) z10).trans k1_w_heap_size_0
 have b0 := (hb2.cell (p := ⟨w.heap.size + 1 + 1, 0, none⟩) z12).trans k1_w_heap_size_1_1_0
 have b1 := (hb2.cell (p := ⟨w.heap.size + 1 + 1, 1, none⟩) z12).trans k1_w_heap_size_1_1_1
 have b2 := (hb2.cell (p := ⟨w.heap.size + 1 + 1, 2, none⟩) z12).trans k1_w_heap_size_1_1_2
 have c0 := (hb2.frozen (p := ⟨w.heap.size + 1 + 1, 0, none⟩) z12).trans r1_w_heap_size_1_1_0
 have c1 := (hb2.frozen (p := ⟨w.heap.size + 1 + 1, 1, none⟩) z12).trans r1_w_heap_size_1_1_1
 have c2 := (hb2.frozen (p := ⟨w.heap.size + 1 + 1, 2, none⟩) z12).trans r1_w_heap_size_1_1_2
 have z0 : w.heap.size < wd.heap.size := by omega
 have z2 : w.heap.size + 1 + 1 < wd.heap.size := by omega
 clear hW hb2 k1_w_heap_size_0 r1_w_heap_size_0 k1_w_heap_size_1 r1_w_heap_size_1 k1_w_heap_size_2 r1_w_heap_size_2 k1_w_heap_size_1_0 r1_w_heap_size_1_0 k1_w_heap_size_1_1 r1_w_heap_size_1_1 k1_w_heap_size_1_2 r1_w_heap_size_1_2 k1_w_heap_size_1_1_0 r1_w_heap_size_1_1_0 k1_w_heap_size_1_1_1 r1_w_heap_size_1_1_1 k1_w_heap_size_1_1_2 r1_w_heap_size_1_1_2
 have k0 := cell_regrown d0; have k1 := cell_regrown d1
 refine wp_below_tail 2 (by kernel_rfl) (by kernel_rfl) ?_
 repeat (quiet_step (first | exact CA.out _ _ _))
 refine wpQuiet_nil ?_
 intro wq hwq
 have hbq : Below wd.heap.size wd wq := by
  obtain ⟨p, hp⟩ := hwq
  rw [hp]; exact below_regrown _ _ _
 clear hwq k0 k1
 replace d0 := (hbq.cell (p := ⟨w1.heap.size, 0, none⟩) zd).trans d0
 replace d1 := (hbq.cell (p := ⟨w1.heap.size, 1, none⟩) zd).trans d1
 replace a0 := (hbq.cell (p := ⟨w.heap.size, 0, none⟩) z0).trans a0
 replace b0 := (hbq.cell (p := ⟨w.heap.size + 1 + 1, 0, none⟩) z2).trans b0
 replace b1 := (hbq.cell (p := ⟨w.heap.size + 1 + 1, 1, none⟩) z2).trans b1
 replace b2 := (hbq.cell (p := ⟨w.heap.size + 1 + 1, 2, none⟩) z2).trans b2
 replace c0 := (hbq.frozen (p := ⟨w.heap.size + 1 + 1, 0, none⟩) z2).trans c0
 replace c1 := (hbq.frozen (p := ⟨w.heap.size + 1 + 1, 1, none⟩) z2).trans c1
 replace c2 := (hbq.frozen (p := ⟨w.heap.size + 1 + 1, 2, none⟩) z2).trans c2
 have HWQ := Lib.hid (HB1.out.trans (hbq.mono (by omega)))
 have y0 : w.heap.size < wq.heap.size := by have := hbq.size; omega
 clear hbq HB1 HW1
 by_cases e : dl = -9223372036854775808 ∧ dh = 9223372036854775807
 ·have yes := Lib.hid (HD.out.2 e)
  obtain ⟨rfl, rfl⟩ := e
  go_wp2_with fail
  refine bodyPost_ret (v := .tuple #[.agg #[.int .i64 0, .int .i64 0, .int .i64 0], .int .i64 2]) ?_ rfl ⟨by have ye := yes.out; first | rfl | simp [ye], (by repeat' (first | with_reducible (first | exact HWQ.out | apply bR | apply bD | apply bN | apply bA | apply bS) | (simp; done) | (simp; omega) | omega))⟩
  simp [results, Tryz.results111, go_sem, *]
 ·have NE := Lib.hid (show ¬ ((⟨dl, dh⟩ : B) = ball) from fun h => e (HD.out.1 h))
  clear HD
  by_cases e1 : dl = -9223372036854775808
  ·have e2 : ¬ dh = 9223372036854775807 := fun h => e ⟨e1, h⟩
   subst e1
   have e3 := beq_no e2
   clear e e2
   go_wp2_with fail
   refine bodyPost_ret (v := .tuple #[.agg #[.int .i64 kb, .int .i64 (-9223372036854775808), .int .i64 dh], .int .i64 0]) ?_ rfl ⟨by have ne := NE.out; first | rfl | simp [ne], (by repeat' (first | with_reducible (first | exact HWQ.out | apply bR | apply bD | apply bN | apply bA | apply bS) | (simp; done) | (simp; omega) | omega))⟩
   simp [results, Tryz.results111, go_sem, *]
  ·have e3 := beq_no e1
   clear e e1
   go_wp2_with fail
   refine bodyPost_ret (v := .tuple #[.agg #[.int .i64 kb, .int .i64 dl, .int .i64 dh], .int .i64 0]) ?_ rfl ⟨by have ne := NE.out; first | rfl | simp [ne], (by repeat' (first | with_reducible (first | exact HWQ.out | apply bR | apply bD | apply bN | apply bA | apply bS) | (simp; done) | (simp; omega) | omega))⟩
   simp [results, Tryz.results111, go_sem, *]
theorem VCounts_any (c : Int) (a b : Wh) (ha : WOk a) (hb : WOk b) (w : World) :
  Calls Tryz.prog 111 #[.int .i64 c, .agg #[.int .i64 a.kind, .int .i64 a.b.lo, .int .i64 a.b.hi], .agg #[.int .i64 b.kind, .int .i64 b.b.lo, .int .i64 b.b.hi]] w fun e w' =>
   e = .returned (.tuple #[.agg #[.int .i64 (wcounts c a b).1.kind, .int .i64 (wcounts c a b).1.b.lo, .int .i64 (wcounts c a b).1.b.hi], .int .i64 (wcounts c a b).2]) ∧ Below w.heap.size w w' := by
 obtain ⟨ka, ⟨la, ga⟩⟩ := a
 obtain ⟨kb, ⟨lb, gb⟩⟩ := b
 obtain ⟨ka', oa⟩ := ha
 obtain ⟨kb', ob⟩ := hb
 simp only at ka' kb' oa ob
 unfold wcounts
 simp only
 by_cases h1 : kb = 0 ∨ (ka = 0 ∧ c ≠ 1)
 ·rw [if_pos h1]; exact VC_none c ka la ga kb lb gb h1 w
 rw [if_neg h1]
 by_cases h2 : c = 1
 ·subst h2; rw [if_pos rfl]; exact VC_mov ka la ga kb lb gb (by omega) w
 rw [if_neg h2]
 by_cases h3 : ka = 1 ∧ kb = 1
 ·rw [if_pos h3]; obtain ⟨rfl, rfl⟩ := h3; exact VC_num c la ga lb gb h2 oa ob w
 rw [if_neg h3]
 by_cases h4 : c = 2 ∧ ka = 1
 ·rw [if_pos h4]
  obtain ⟨rfl, rfl⟩ := h4
  unfold wshift
  simp only
  by_cases h5 : kb = 5
  ·rw [if_pos (by omega)]; exact VC_maybe la ga kb lb gb (by omega) h5 w
  ·rw [if_neg (by omega)]
   refine (VC_swap la ga kb lb gb (by omega) oa ob w).mono fun e w' he => ⟨he.1.trans ?_, he.2⟩
   split <;> rfl
 ·rw [if_neg h4]
  unfold wshift
  simp only
  by_cases h5 : kb ≠ 1 ∨ ka = 5 ∨ (c ≠ 2 ∧ c ≠ 3)
  ·rw [if_pos h5]; exact VC_arg c ka la ga kb lb gb (by omega) (by omega) h2 h3 h4 h5 w
  ·rw [if_neg h5]
   obtain rfl : kb = 1 := by omega
   have c23 : c = 2 ∨ c = 3 := by omega
   rcases c23 with rfl | rfl
   ·refine (VC_shift2 ka la ga lb gb (by omega) oa ob w).mono fun e w' he => ⟨he.1.trans ?_, he.2⟩
    split <;> rfl
   ·refine (VC_shift3 ka la ga lb gb (by omega) oa ob w).mono fun e w' he => ⟨he.1.trans ?_, he.2⟩
    split <;> rfl
end Go.Proofs.YtpdlmbbgioenoaaGreatDoor.W
namespace Go.Proofs.YtpdlmbbgioenoaaGreatDoor.W
open Go.RowKit Go.Proofs.YtpdlmbbgioenoaaGreatDoor.P
def VStepTo (n bs : Nat) (s : VS) (t : Step) (pc q : Nat) (er : Int) (s2 : VS) (w : World) : Prop :=
 (er = 0 ∧ pc ≤ q ∧ q + 1 < n ∧ VSOk s2 ∧ P.Img w bs 81 (simg wcell s2) ∧ s.step t pc = .go (some (s2, ((q + 1 : Nat) : Int))) none) ∨ (er ≠ 0 ∧ q = pc ∧ s.step t pc = .err er)
theorem VStepTo.pair {n bs : Nat} {s s2 : VS} {t : Step} {pc : Nat} {er : Int} {w : World} (hs : s.step t pc = if er ≠ 0 then .err er else .go (some (s2, (pc : Int) + 1)) none)
  (hn : pc + 1 < n) (hm : VSOk s2) (ha : P.Img w bs 81 (simg wcell s2)) : VStepTo n bs s t pc pc er s2 w := by
 by_cases he : er = 0
 ·exact .inl ⟨he, Nat.le_refl _, hn, hm, ha, by rw [hs, if_neg (by simp [he])]; push_cast; rfl⟩
 ·exact .inr ⟨he, rfl, by rw [hs, if_pos he]⟩
theorem but_set {b : Nat} {x w : World} (h : But b x w) {p : Addr} (hp : p.block = b ∨ x.heap.size ≤ p.block) (u : Value) : But b x (w.setCell p u) := h.setCell hp u
theorem vstep_load (s : VS) (d sr : Nat) (r : Bool) (o nn pc : Int) : s.step ⟨25, d, sr, r, o, nn⟩ pc = if (s.load (s.regs sr) o).2 ≠ 0 then .err (s.load (s.regs sr) o).2 else .go (some ({ s with regs := upd s.regs d (s.load (s.regs sr) o).1 }, pc + 1)) none := by
 unfold VS.step; simp [VS.setReg]
theorem vstep_store (s : VS) (d sr : Nat) (r : Bool) (o nn pc : Int) : s.step ⟨26, d, sr, r, o, nn⟩ pc = if (s.store (s.regs d) o (s.second ⟨26, d, sr, r, o, nn⟩)).2 ≠ 0 then .err (s.store (s.regs d) o (s.second ⟨26, d, sr, r, o, nn⟩)).2 else .go (some ((s.store (s.regs d) o (s.second ⟨26, d, sr, r, o, nn⟩)).1, pc + 1)) none := by
 unfold VS.step; simp
theorem vstep_call (s : VS) (d sr : Nat) (r : Bool) (o nn pc : Int) : s.step ⟨27, d, sr, r, o, nn⟩ pc = if (s.call nn).2 ≠ 0 then .err (s.call nn).2 else .go (some ((s.call nn).1, pc + 1)) none := by
 unfold VS.step; simp
theorem vstep_neg (s : VS) (d sr : Nat) (r : Bool) (o nn pc : Int) : s.step ⟨13, d, sr, r, o, nn⟩ pc = if (wcounts 13 (s.regs d) (.num (bone 0))).2 ≠ 0 then .err (wcounts 13 (s.regs d) (.num (bone 0))).2 else .go (some ({ s with regs := upd s.regs d (wcounts 13 (s.regs d) (.num (bone 0))).1 }, pc + 1)) none := by
 unfold VS.step VS.operand; simp [VS.setReg]
theorem vstep_make (s : VS) (c : Int) (hc : c ≤ 12) (d sr : Nat) (r : Bool) (o nn pc : Int) : s.step ⟨c, d, sr, r, o, nn⟩ pc = if (wcounts c (s.regs d) (s.second ⟨c, d, sr, r, o, nn⟩)).2 ≠ 0 then .err (wcounts c (s.regs d) (s.second ⟨c, d, sr, r, o, nn⟩)).2 else .go (some ({ s with regs := upd s.regs d (wcounts c (s.regs d) (s.second ⟨c, d, sr, r, o, nn⟩)).1 }, pc + 1)) none := by
 unfold VS.step VS.operand
 simp only [show ¬ c = 28 by omega, show ¬ c = 14 by omega, show ¬ (15 ≤ c ∧ c ≤ 24) by omega, show ¬ c = 25 by omega, show ¬ c = 26 by omega, show ¬ c = 27 by omega, show ¬ c = 13 by omega, if_false]
 simp [VS.setReg]
theorem vstep_ask (s : VS) (c : Int) (hc : 15 ≤ c ∧ c ≤ 24) (d sr : Nat) (r : Bool) (o nn pc : Int) : s.step ⟨c, d, sr, r, o, nn⟩ pc = s.asks ⟨c, d, sr, r, o, nn⟩ pc := by
 unfold VS.step
 simp only [show ¬ c = 28 by omega, show ¬ c = 14 by omega, if_false]
 rw [if_pos hc]
theorem vstep_jump (s : VS) (d sr : Nat) (r : Bool) (o nn pc : Int) : s.step ⟨14, d, sr, r, o, nn⟩ pc = .go (some (s, pc + 1 + o)) none := by
 unfold VS.step; simp
theorem vstep_exit (s : VS) (d sr : Nat) (r : Bool) (o nn pc : Int) : s.step ⟨28, d, sr, r, o, nn⟩ pc = if (s.regs 0).kind = 1 then .done (s.regs 0).b else if (s.regs 0).kind = 0 then .err 8 else .err 1 := by
 unfold VS.step; simp
theorem wimg_looks {code : Value} {k : Wk} (l : Int) : ∀ j, j < 5 → upd (wimg code k) 1 (.int .i64 l) j = wimg code ⟨l, k.ends⟩ j := by
 intro j hj
 by_cases h : j = 1
 ·subst h; rw [upd_same]; rfl
 ·rw [upd_other h]; unfold wimg; simp only [h, if_false]
set_option maxHeartbeats 100000000 in
theorem VWalk_any (S : Nat → Step) (a : Addr) (n cap b : Nat) (hcap : n ≤ cap) (hn2 : n ≤ 200) (hab : a.block ≠ b) (HPS : ∀ j, j < n → StepOk n j (S j)) (HWR : ∀ j, j < n → (S j).wrong = 0) (HOFF : ∀ j, j < n → In64 (S j).off) : ∀ f, WalkC S a n cap b f := by
 intro f
 induction f using Nat.strongRecOn with
 | _ f ih =>
 intro s pc k w hs hpc hf hk0 hk1 hke hc hI
 have HW0 := Lib.hid (Below.refl w.heap.size w)
 have hlt := hI.lt (by omega)
 have IH := Lib.hid ih
 have HP := Lib.hid HPS
 have HWRG := Lib.hid HWR
 have HOFG := Lib.hid HOFF
 have HS := Lib.hid hs
 have HC := Lib.hid hc
 have HI := Lib.hid hI
 have HKE := Lib.hid hke
 obtain ⟨R, hR⟩ : ∃ R, vwalk S f s pc k = R := ⟨_, rfl⟩
 rw [hR]
 have HR := Lib.hid hR
 have hnb : w.heap.size ≠ b := by omega
 clear ih HPS HWR HOFF hs hc hI hke hR
 go_enter Tryz.func61, Tryz.ntmps61
 go_wp2_with fail
 go_loopw [2] (fun p wr => ∃ (pc' f' : Nat) (s' : VS) (k' : Wk), p = .int .i64 pc' ∧ pc' < n ∧ n ≤ pc' + f' ∧ f' ≤ f ∧ VSOk s' ∧ 0 ≤ k'.looks ∧ k'.looks ≤ 4000 ∧ (∀ e ∈ k'.ends, e.Ok) ∧ vwalk S f' s' pc' k' = R ∧ P.Img wr w.heap.size 81 (simg wcell s') ∧ P.Img wr b 5 (wimg (.slice (some a) n cap) k') ∧ But b w wr) (fun p _ => n - (intOf p).toNat)
 case atStart => exact ⟨pc, f, s, k, rfl, hpc, hf, Nat.le_refl _, HS.out, hk0, hk1, HKE.out, HR.out, Img.snew, HI.out.alloc _, (But.refl b w).alloc _⟩
 case round =>
  obtain ⟨pc', f', s', k', rfl, hpc', hf', hff, hs', hk0', hk1', hke', hrun, hIS, hIW, hB⟩ := hrel
  obtain ⟨f0', rfl⟩ : ∃ g, f' = g + 1 := ⟨f' - 1, by omega⟩
  obtain ⟨lk, en⟩ := k'
  simp only at hk0' hk1' hke'
  have hC' := HC.out.but hB hab
  obtain ⟨e0, e1, e2, e3, e4, e5⟩ := hC' pc' hpc'
  have l0 := block_lt_of_cell e0
  have ht := HP.out pc' hpc'
  have hw := HWRG.out pc' hpc'
  have hof := HOFG.out pc' hpc'
  rw [vwalk_succ, Int.toNat_natCast] at hrun
  generalize hT : S pc' = t at *
  obtain ⟨c, d, sr, r, o, nn⟩ := t
  obtain ⟨g1, g2, g3, g4⟩ := wrong_ok hw
  simp only at g1 g2 g3 g4 e0 e1 e2 e3 e4 e5 hrun
  have hin : In64 nn := ht.2.2
  obtain ⟨d, rfl⟩ := Int.eq_ofNat_of_zero_le g2.1
  obtain ⟨sr, rfl⟩ := Int.eq_ofNat_of_zero_le g2.2.2.1
  have dN : d < 11 := by omega
  have sN : sr < 11 := by omega
  have d1 : (d : Int) < 11 := by omega
  have s1 : (sr : Int) < 11 := by omega
  have pc1 : (pc' : Int) < n := by omega
  have pc2 : (pc' : Int) < 200 := by omega
  have pc0 : (0 : Int) ≤ pc' := by omega
  have lk1 : lk + 1 ≤ 4001 := by omega
  have c0 : wr.cell? ⟨b, 0, none⟩ = some (.slice (some a) n cap) := hIW.cell 0 (by omega)
  have c1 : wr.cell? ⟨b, 1, none⟩ = some (.int .i64 lk) := hIW.cell 1 (by omega)
  have w1' := hIW.free 1 (by omega)
  have zb : b < wr.heap.size := hIW.lt (by omega)
  have zs : w.heap.size < wr.heap.size := hIS.lt (by omega)
  have IW1 : P.Img (wr.setCell ⟨b, 1, none⟩ (.int .i64 (lk + 1))) b 5 (wimg (.slice (some a) n cap) ⟨lk + 1, en⟩) := (hIW.set (j := 1) (by omega) _).congr (wimg_looks _)
  have IS1 : P.Img (wr.setCell ⟨b, 1, none⟩ (.int .i64 (lk + 1))) w.heap.size 81 (simg wcell s') := hIS.other (by simpa using Ne.symm hnb) _
  have B1 : But b w (wr.setCell ⟨b, 1, none⟩ (.int .i64 (lk + 1))) := hB.setCell (.inl rfl) _
  have C1 : Cells (wr.setCell ⟨b, 1, none⟩ (.int .i64 (lk + 1))) a S n := hC'.but ((But.refl b wr).setCell (.inl rfl) _) hab
  have HRUN := Lib.hid hrun
  have HTE := Lib.hid hT
  have HS' := Lib.hid hs'
  have HKE' := Lib.hid hke'
  have HTT := Lib.hid ht
  have HWR := Lib.hid hw
  have HOF : Hid (In64 o) := hof
  have HNB := Lib.hid g4
  have HIW := Lib.hid IW1
  have HIS := Lib.hid IS1
  have HB := Lib.hid B1
  have HC1 := Lib.hid C1
  clear hrun hT hs' hke' ht hw hof g4 hIS hIW hB hC' IW1 IS1 B1 C1 e0 e1 e2 e3 e4 e5 l0
  go_upto_region 3 with fail
  have zb1 : b < (wr.setCell ⟨b, 1, none⟩ (.int .i64 (lk + 1))).heap.size := by simpa using zb
  have zs1 : w.heap.size < (wr.setCell ⟨b, 1, none⟩ (.int .i64 (lk + 1))).heap.size := by simpa using zs
  generalize wr.setCell ⟨b, 1, none⟩ (.int .i64 (lk + 1)) = w1 at *
  clear c0 c1 w1' zb zs
  obtain ⟨e0, e1, e2, e3, e4, e5⟩ := HC1.out pc' hpc'
  rw [HTE.out] at e0 e1 e2 e3 e4 e5
  simp only at e0 e1 e2 e3 e4 e5
  have l0 := block_lt_of_cell e0
  have c0 : w1.cell? ⟨b, 0, none⟩ = some (.slice (some a) n cap) := HIW.out.cell 0 (by omega)
  have c1 : w1.cell? ⟨b, 1, none⟩ = some (.int .i64 (lk + 1)) := HIW.out.cell 1 (by omega)
  by_cases hl : 4000 < lk + 1
  ·have hr2 := HRUN.out
   rw [if_pos hl] at hr2
   subst hr2
   as_aux_lemma =>
    go_wp2_with fail
    refine (At_any _ _ _).mono ?_
    rintro e w3 ⟨rfl, q0, q1, q2, hb3⟩
    have HB3 := Lib.hid hb3
    clear hb3
    go_wp2_with fail
    go_ret
    exact ⟨_, rfl, .inr (.inr ⟨show (4 : Int) ≠ 0 by decide, _, rfl, q0, q1⟩), HIW.out.later HB3.out zb1, HB.out.trans (But.of HB3.out)⟩
  have hr2 := HRUN.out
  rw [if_neg hl] at hr2
  have HRUN2 := Lib.hid hr2
  clear hr2 HRUN
  go_upto_block 2 with fail
  generalize hW : World.alloc w1 _ = wd
  have IT : P.Img wd w1.heap.size 6 (timg ⟨c, d, sr, r, o, nn⟩) := by
   rw [← hW]
   refine Img.of_cells (heap_alloc_new w1 _) (by rfl) fun j hj => ?_
   rcases j with _ | _ | _ | _ | _ | _ | j
   ·rfl
   ·rfl
   ·rfl
   ·rfl
   ·rfl
   ·rfl
   ·omega
  have hbd : Below w1.heap.size w1 wd := hW ▸ (Below.refl _ _).alloc (Nat.le_refl _) _
  clear hW
  obtain ⟨f0, f1, f2, f3, f4, f5⟩ := tcells IT
  simp only at f0 f1 f2 f3 f4 f5
  have HISd := Lib.hid (HIS.out.later hbd zs1)
  have HIWd := Lib.hid (HIW.out.later hbd zb1)
  have HCd := Lib.hid (HC1.out.later hbd)
  have HBd := Lib.hid (HB.out.trans (But.of hbd))
  have HITd := Lib.hid IT
  have zt := IT.lt (by omega)
  have zsd : w.heap.size < wd.heap.size := HISd.out.lt (by omega)
  have zbd : b < wd.heap.size := HIWd.out.lt (by omega)
  have nst : ¬ w.heap.size = w1.heap.size := by omega
  clear hbd IT HIS HIW HC1 HB e0 e1 e2 e3 e4 e5 c0 c1
  have hn1 : c = 28 ∨ pc' + 1 < n := by have := HTT.out.1; simp only at this; omega
  go_cut [2, 8] (fun p e wx => ∃ (q : Nat) (er : Int) (s2 : VS), p = .int .i64 q ∧ e = .int .i64 er ∧ P.Img wx b 5 (wimg (.slice (some a) n cap) ⟨lk + 1, en⟩) ∧ But b w wx ∧ VStepTo n w.heap.size s' ⟨c, d, sr, r, o, nn⟩ pc' q er s2 wx)
  case first =>
   obtain ⟨x0, x1, x2⟩ := rcells HISd.out dN
   obtain ⟨y0, y1, y2⟩ := rcells HISd.out sN
   obtain ⟨z0, z1, z2⟩ := rcells HISd.out (by omega : 0 < 11)
   simp only [Nat.zero_mul, Nat.zero_add] at z0 z1 z2
   have hcl : c = 28 ∨ c = 14 ∨ (15 ≤ c ∧ c ≤ 24) ∨ c = 25 ∨ c = 26 ∨ c = 27 ∨ c = 13 ∨ c ≤ 12 := by omega
   rcases hcl with rfl | rfl | hc | rfl | rfl | rfl | rfl | hc
   ·as_aux_lemma =>
     have HST := Lib.hid (vstep_exit s' d sr r o nn pc')
     by_cases e1 : (s'.regs 0).kind = 1
     ·have hs2 := HST.out
      rw [if_pos e1] at hs2
      have hr3 := HRUN2.out
      rw [hs2] at hr3
      have HR3 := Lib.hid hr3
      have t1 := vbeq_yes e1
      have t0 := vbeq_no (show (s'.regs 0).kind ≠ 0 by omega)
      clear hs2 hr3 e1
      have c2 : wd.cell? ⟨b, 2, none⟩ = some (.bool (!en.isEmpty)) := HIWd.out.cell 2 (by omega)
      have c3 : wd.cell? ⟨b, 3, none⟩ = some (.int .i64 (outOf en).lo) := HIWd.out.cell 3 (by omega)
      have c4 : wd.cell? ⟨b, 4, none⟩ = some (.int .i64 (outOf en).hi) := HIWd.out.cell 4 (by omega)
      have w2 := HIWd.out.free 2 (by omega); have w3 := HIWd.out.free 3 (by omega); have w4 := HIWd.out.free 4 (by omega)
      generalize s'.regs 0 = x at *
      obtain ⟨xk, ⟨xl, xh⟩⟩ := x
      simp only at t0 t1 z0 z1 z2
      cases en with
      | nil =>
       go_upto_region 16 with fail
       generalize hW : World.setCell (World.setCell wd _ _) _ _ = wa
       have IA : P.Img wa b 5 (upd (upd (wimg (.slice (some a) n cap) ⟨lk + 1, []⟩) 3 (.int .i64 xl)) 4 (.int .i64 xh)) := hW ▸ (HIWd.out.set (j := 3) (by omega) _).set (j := 4) (by omega) _
       have BA : But b wd wa := hW ▸ ((But.refl b wd).setCell (.inl rfl) _).setCell (.inl rfl) _
       clear hW
       have u3 : wa.cell? ⟨b, 3, none⟩ = some (.int .i64 xl) := IA.cell 3 (by omega)
       have u4 : wa.cell? ⟨b, 4, none⟩ = some (.int .i64 xh) := IA.cell 4 (by omega)
       have v1 := BA.cell z1 (show w.heap.size ≠ b by omega)
       have v2 := BA.cell z2 (show w.heap.size ≠ b by omega)
       have HIA := Lib.hid IA
       have HBA := Lib.hid (HBd.out.trans BA)
       have zba : b < wa.heap.size := IA.lt (by omega)
       have k0 := cell_regrown u3; have k1 := cell_regrown u4; have k2 := cell_regrown v1; have k3 := cell_regrown v2
       have CJ : ∀ dr os, Calls Tryz.prog 105 #[.agg #[.int .i64 xl, .int .i64 xh], .agg #[.int .i64 xl, .int .i64 xh]] (Go.Sort.grow (redrawn wa dr) os) fun e w'' => e = .returned (.agg #[.int .i64 (min xl xl), .int .i64 (max xh xh)]) ∧ ∃ p : Regrown, w'' = Go.Sort.grow (redrawn wa p.d) p.os := fun dr os => Calls.regrown_of (Join_any _ _ _ _ _)
       have HCJ := Lib.hid CJ
       clear IA BA CJ u3 u4 v1 v2 c2 c3 c4 w2 w3 w4
       refine wp_below_one 13 (by kernel_rfl) (by kernel_rfl) ?_
       repeat (quiet_step (exact HCJ.out _ _))
       refine wpQuiet_nil ?_
       intro wq hwq
       have hbq : Below wa.heap.size wa wq := by
        obtain ⟨p, hp⟩ := hwq
        rw [hp]; exact below_regrown _ _ _
       clear hwq k0 k1 k2 k3
       have IQ := HIA.out.later hbq zba
       have HIQ := Lib.hid IQ
       have HBQ := Lib.hid (HBA.out.trans (But.of hbq))
       have q2 := IQ.cell 2 (by omega); have q3 := IQ.cell 3 (by omega); have q4 := IQ.cell 4 (by omega)
       have p2 := IQ.free 2 (by omega); have p3 := IQ.free 3 (by omega); have p4 := IQ.free 4 (by omega)
       clear IQ hbq HCJ
       go_wp2_with fail
       refine NoPanic.normal ?_
       go_wp2_with fail
       go_ret
       rw [← HR3.out]
       refine ⟨_, rfl, .inl ⟨rfl, rfl, rfl⟩, ?_, ?_⟩
       ·have K := ((HIQ.out.set (j := 3) (by omega) (.int .i64 (xl))).set (j := 4) (by omega) (.int .i64 (xh))).set (j := 2) (by omega) (.bool true)
        refine Img.congr (I := upd (upd (upd (upd (upd (wimg (.slice (some a) n cap) ⟨lk + 1, []⟩) 3 (.int .i64 xl)) 4 (.int .i64 xh)) 3 (.int .i64 (xl))) 4 (.int .i64 (xh))) 2 (.bool true)) ?_ fun j hj => ?_
        ·first | exact K | exact K.drew
        ·show _ = wimg (.slice (some a) n cap) ⟨lk + 1, [] ++ [⟨xl, xh⟩]⟩ j
         rcases j with _ | _ | _ | _ | _ | j
         ·rfl
         ·rfl
         ·rfl
         ·simp [upd, wimg, outOf]
         ·simp [upd, wimg, outOf]
         ·omega
       ·(repeat' (first | with_reducible exact HBQ.out | with_reducible refine But.drew ?_ | with_reducible refine but_set ?_ ?_ _ | exact .inl rfl))
      | cons eh en =>
       go_upto_region 16 with fail
       have IA := HIWd.out
       have BA := But.refl b wd
       have u3 := c3
       have u4 := c4
       have v1 := z1
       have v2 := z2
       have HIA := Lib.hid IA
       have HBA := Lib.hid (HBd.out.trans BA)
       have zba : b < wd.heap.size := IA.lt (by omega)
       have k0 := cell_regrown u3; have k1 := cell_regrown u4; have k2 := cell_regrown v1; have k3 := cell_regrown v2
       have CJ : ∀ dr os, Calls Tryz.prog 105 #[.agg #[.int .i64 (outOf (eh :: en)).lo, .int .i64 (outOf (eh :: en)).hi], .agg #[.int .i64 xl, .int .i64 xh]] (Go.Sort.grow (redrawn wd dr) os) fun e w'' => e = .returned (.agg #[.int .i64 (min (outOf (eh :: en)).lo xl), .int .i64 (max (outOf (eh :: en)).hi xh)]) ∧ ∃ p : Regrown, w'' = Go.Sort.grow (redrawn wd p.d) p.os := fun dr os => Calls.regrown_of (Join_any _ _ _ _ _)
       have HCJ := Lib.hid CJ
       clear IA BA CJ u3 u4 v1 v2 c2 c3 c4 w2 w3 w4 z1 z2
       refine wp_below_one 13 (by kernel_rfl) (by kernel_rfl) ?_
       repeat (quiet_step (exact HCJ.out _ _))
       refine wpQuiet_nil ?_
       intro wq hwq
       have hbq : Below wd.heap.size wd wq := by
        obtain ⟨p, hp⟩ := hwq
        rw [hp]; exact below_regrown _ _ _
       clear hwq k0 k1 k2 k3
       have IQ := HIA.out.later hbq zba
       have HIQ := Lib.hid IQ
       have HBQ := Lib.hid (HBA.out.trans (But.of hbq))
       have q2 := IQ.cell 2 (by omega); have q3 := IQ.cell 3 (by omega); have q4 := IQ.cell 4 (by omega)
       have p2 := IQ.free 2 (by omega); have p3 := IQ.free 3 (by omega); have p4 := IQ.free 4 (by omega)
       clear IQ hbq HCJ
       go_wp2_with fail
       refine NoPanic.normal ?_
       go_wp2_with fail
       go_ret
       rw [← HR3.out]
       refine ⟨_, rfl, .inl ⟨rfl, rfl, rfl⟩, ?_, ?_⟩
       ·have K := ((HIQ.out.set (j := 3) (by omega) (.int .i64 (min (outOf (eh :: en)).lo xl))).set (j := 4) (by omega) (.int .i64 (max (outOf (eh :: en)).hi xh))).set (j := 2) (by omega) (.bool true)
        refine Img.congr (I := upd (upd (upd (wimg (.slice (some a) n cap) ⟨lk + 1, eh :: en⟩) 3 (.int .i64 (min (outOf (eh :: en)).lo xl))) 4 (.int .i64 (max (outOf (eh :: en)).hi xh))) 2 (.bool true)) ?_ fun j hj => ?_
        ·first | exact K | exact K.drew
        ·show _ = wimg (.slice (some a) n cap) ⟨lk + 1, (eh :: en) ++ [⟨xl, xh⟩]⟩ j
         rcases j with _ | _ | _ | _ | _ | j
         ·rfl
         ·rfl
         ·simp [upd, wimg]
         ·show Value.int .i64 _ = Value.int .i64 (outOf ((eh :: en) ++ [⟨xl, xh⟩])).lo; rw [outOf_snoc, if_neg (by simp)]; rfl
         ·show Value.int .i64 _ = Value.int .i64 (outOf ((eh :: en) ++ [⟨xl, xh⟩])).hi; rw [outOf_snoc, if_neg (by simp)]; rfl
         ·omega
       ·(repeat' (first | with_reducible exact HBQ.out | with_reducible refine But.drew ?_ | with_reducible refine but_set ?_ ?_ _ | exact .inl rfl))
     ·by_cases e0 : (s'.regs 0).kind = 0
      ·have hs2 := HST.out
       rw [if_neg e1, if_pos e0] at hs2
       have hr3 := HRUN2.out
       rw [hs2] at hr3
       subst hr3
       have t0 := vbeq_yes e0
       clear hs2 e0 e1
       go_wp2_with fail
       refine (At_any _ _ _).mono ?_
       rintro e w3 ⟨rfl, q0, q1, q2, hb3⟩
       have HB3 := Lib.hid hb3
       clear hb3
       go_wp2_with fail
       go_ret
       exact ⟨_, rfl, .inr (.inr ⟨show (8 : Int) ≠ 0 by decide, _, rfl, q0, q1⟩), HIWd.out.later HB3.out zbd, HBd.out.trans (But.of HB3.out)⟩
      ·have hs2 := HST.out
       rw [if_neg e1, if_neg e0] at hs2
       have hr3 := HRUN2.out
       rw [hs2] at hr3
       subst hr3
       have t0 := vbeq_no e0
       have t1 := vbeq_no e1
       clear hs2 e0 e1
       go_wp2_with fail
       refine (At_any _ _ _).mono ?_
       rintro e w3 ⟨rfl, q0, q1, q2, hb3⟩
       have HB3 := Lib.hid hb3
       clear hb3
       go_wp2_with fail
       go_ret
       exact ⟨_, rfl, .inr (.inr ⟨show (1 : Int) ≠ 0 by decide, _, rfl, q0, q1⟩), HIWd.out.later HB3.out zbd, HBd.out.trans (But.of HB3.out)⟩
   ·as_aux_lemma =>
     obtain ⟨o1, o2⟩ := HTT.out.2.1 (.inl rfl)
     simp only at o1 o2
     obtain ⟨o, rfl⟩ := Int.eq_ofNat_of_zero_le o1
     have HST := Lib.hid (vstep_jump s' d sr r o nn pc')
     go_wp2_with fail
     go_meet
     go_light
     refine ⟨pc' + o, 0, s', by go_num, rfl, HIWd.out, HBd.out, .inl ⟨rfl, by omega, by omega, HS'.out, HISd.out, ?_⟩⟩
     rw [HST.out]
     congr 3
     push_cast
     omega
   ·as_aux_lemma =>
     have t28 := vbeq_no (show c ≠ 28 by omega)
     have t14 := vbeq_no (show c ≠ 14 by omega)
     have t15 : 15 ≤ c := hc.1
     have t24 : c ≤ 24 := hc.2
     have HST := Lib.hid (vstep_ask s' c hc d sr r o nn pc')
     have CA := Lib.hid (VAsks_try S a n cap b f0' hcap hn2 hab (IH.out f0' (by omega)) HP.out s' pc' ⟨lk + 1, en⟩ wd HS'.out hpc' (by omega) (by show 0 ≤ lk + 1; omega) (by show lk + 1 ≤ 4000; omega) HKE'.out HCd.out HIWd.out (HP.out pc' hpc') (by rw [HTE.out]; exact HWR.out) (by rw [HTE.out]; exact hc))
     clear hc
     go_wp2_with (first | (go_at_call 63; refine (Asks_any _ _).mono ?_; rintro e w' ⟨rfl, rfl⟩; rw [asks_of]) | (with_reducible refine vl_load (by simp [go_sem]; done) 160 (.tmp 4) rfl w.heap.size 0 (by simp [go_sem]; done) (scells wcell s') _ (Img.scells HISd.out) Tryz.underlying160 rfl (size_state _) ?_))
     refine CA.out.mono ?_
     intro e w6 hp
     obtain ⟨v, rfl, hE, hI6, hB6⟩ := hp
     have HE := Lib.hid hE
     have HI6 := Lib.hid hI6
     have HB6 := Lib.hid hB6
     clear hE hI6 hB6
     go_wp2_with fail
     go_ret
     have hr3 := HRUN2.out
     rw [HST.out, ← HTE.out] at hr3
     rw [← hr3]
     exact ⟨_, rfl, HE.out, HI6.out, HBd.out.trans HB6.out⟩
   ·as_aux_lemma =>
     have k0 := cell_regrown f0; have k1 := cell_regrown f1; have k2 := cell_regrown f2; have k4 := cell_regrown f4
     have k5 := cell_regrown y0; have k6 := cell_regrown y1; have k7 := cell_regrown y2
     have ho : In64 o := HOF.out
     have cL : ∀ dr os, Calls Tryz.prog 107 #[.pointer (some ⟨w.heap.size, 0, none⟩), .agg #[.int .i64 (s'.regs sr).kind, .int .i64 (s'.regs sr).b.lo, .int .i64 (s'.regs sr).b.hi], .int .i64 o] (Go.Sort.grow (redrawn wd dr) os) fun e w'' =>
      e = .returned (.tuple #[.agg #[.int .i64 (s'.load (s'.regs sr) o).1.kind, .int .i64 (s'.load (s'.regs sr) o).1.b.lo, .int .i64 (s'.load (s'.regs sr) o).1.b.hi], .int .i64 (s'.load (s'.regs sr) o).2]) ∧ ∃ p : Regrown, w'' = Go.Sort.grow (redrawn wd p.d) p.os := fun dr os => Calls.regrown_of (VLoad_any w.heap.size s' _ (HISd.out.later (below_regrown wd dr os) zsd) (s'.regs sr) (HS'.out.1 sr) o ho)
     have hst := vstep_load s' d sr r o nn pc'
     have hml := HS'.out.load (HS'.out.1 sr) o
     generalize s'.load (s'.regs sr) o = L at *
     obtain ⟨⟨lk2, ⟨ln, lc⟩⟩, le⟩ := L
     have HST := Lib.hid hst
     have HML := Lib.hid hml
     have CL := Lib.hid cL
     clear hst hml cL ho
     go_wp2_with (go_at_call 63; refine (Asks_any _ _).mono ?_; rintro e w' ⟨rfl, rfl⟩; rw [asks_of])
     refine wp_below_one 15 (by kernel_rfl) (by kernel_rfl) ?_
     repeat (quiet_step (first | exact CL.out _ _))
     refine wpQuiet_nil ?_
     intro wq hwq
     have hbq : Below wd.heap.size wd wq := by
      obtain ⟨p, hp⟩ := hwq
      rw [hp]; exact below_regrown _ _ _
     clear hwq
     clear k0 k1 k2 k4 k5 k6 k7 f0 f1 f2 f3 f4 f5 x0 x1 x2 y0 y1 y2 z0 z1 z2
     have IQ := HISd.out.later hbq zsd
     have HIQ := Lib.hid IQ
     have HWQ := Lib.hid (HIWd.out.later hbq zbd)
     have HBQ := Lib.hid (HBd.out.trans (But.of hbq))
     have q0 := IQ.cell (d * 3) (by omega); have q1 := IQ.cell (d * 3 + 1) (by omega); have q2 := IQ.cell (d * 3 + 2) (by omega)
     have p0 := IQ.free (d * 3) (by omega); have p1 := IQ.free (d * 3 + 1) (by omega); have p2 := IQ.free (d * 3 + 2) (by omega)
     clear IQ hbq
     go_wp2_with fail
     refine NoPanic.normal ?_
     go_wp2_with fail
     go_meet
     go_light
     refine ⟨pc', le, { s' with regs := upd s'.regs d ⟨lk2, ⟨ln, lc⟩⟩ }, rfl, rfl, ?_, ?_, ?_⟩
     ·(repeat' (first | with_reducible exact HWQ.out | with_reducible refine Img.drew ?_ | with_reducible refine Img.other ?_ ?_ _ | (simp; done) | (simp; omega) | omega))
     ·(repeat' (first | with_reducible exact HBQ.out | with_reducible refine But.drew ?_ | with_reducible refine but_set ?_ ?_ _ | (simp; done) | (simp; omega) | omega))
     ·refine VStepTo.pair HST.out (by omega) (HS'.out.setReg' d HML.out) ?_
      have K := (((HIQ.out.set (j := d * 3) (by omega) (wcell ⟨lk2, ⟨ln, lc⟩⟩ 0)).set (j := d * 3 + 1) (by omega) (wcell ⟨lk2, ⟨ln, lc⟩⟩ 1)).set (j := d * 3 + 2) (by omega) (wcell ⟨lk2, ⟨ln, lc⟩⟩ 2)).congr (simg_setreg dN ⟨lk2, ⟨ln, lc⟩⟩)
      first | with_reducible exact K | with_reducible exact K.drew | exact K
   ·as_aux_lemma =>
     have k0 := cell_regrown f0; have k1 := cell_regrown f1; have k2 := cell_regrown f2; have k3 := cell_regrown f3; have k4 := cell_regrown f4; have k8 := cell_regrown f5
     have k5 := cell_regrown x0; have k6 := cell_regrown x1; have k7 := cell_regrown x2
     have hst := vstep_store s' d sr r o nn pc'
     have hx := HS'.out.second (t := ⟨26, d, sr, r, o, nn⟩) hin
     have cL : ∀ dr os, Calls Tryz.prog 109 #[.pointer (some ⟨w.heap.size, 0, none⟩), .agg #[.int .i64 26, .int .i64 d, .int .i64 sr, .bool r, .int .i64 o, .int .i64 nn]] (Go.Sort.grow (redrawn wd dr) os) fun e w'' =>
      e = .returned (.agg #[.int .i64 (s'.second ⟨26, d, sr, r, o, nn⟩).kind, .int .i64 (s'.second ⟨26, d, sr, r, o, nn⟩).b.lo, .int .i64 (s'.second ⟨26, d, sr, r, o, nn⟩).b.hi]) ∧ ∃ p : Regrown, w'' = Go.Sort.grow (redrawn wd p.d) p.os := fun dr os => Calls.regrown_of (VSecond_any w.heap.size s' _ (HISd.out.later (below_regrown wd dr os) zsd) 26 d sr r o nn sN)
     generalize s'.second ⟨26, d, sr, r, o, nn⟩ = x at *
     have hml := HS'.out.store (s'.regs d) o hx
     have HST := Lib.hid hst
     have HML := Lib.hid hml
     have CL := Lib.hid cL
     clear hst hml cL hx
     go_wp2_with (go_at_call 63; refine (Asks_any _ _).mono ?_; rintro e w' ⟨rfl, rfl⟩; rw [asks_of])
     refine wp_below_tail 9 (by kernel_rfl) (by kernel_rfl) ?_
     repeat (quiet_step (first | exact CL.out _ _))
     refine wpQuiet_nil ?_
     intro wq hwq
     have hbq : Below wd.heap.size wd wq := by
      obtain ⟨p, hp⟩ := hwq
      rw [hp]; exact below_regrown _ _ _
     clear hwq
     have HISq := Lib.hid (HISd.out.later hbq zsd)
     have HWQ := Lib.hid (HIWd.out.later hbq zbd)
     have HBQ := Lib.hid (HBd.out.trans (But.of hbq))
     clear hbq k0 k1 k2 k3 k4 k5 k6 k7 k8 f0 f1 f2 f3 f4 f5 x0 x1 x2 y0 y1 y2 z0 z1 z2
     go_wp2_with fail
     refine (VStore_any w.heap.size s' _ HISq.out (s'.regs d) (HS'.out.1 d) o HOF.out x).mono ?_
     rintro e w3 ⟨rfl, hM3, hb3⟩
     have HW3 := Lib.hid (hb3.img HWQ.out (by omega) (Ne.symm hnb))
     have HB3 := Lib.hid (but_new HBQ.out hb3 (Nat.le_refl _))
     have HM3 := Lib.hid hM3
     clear hb3 hM3
     generalize s'.store (s'.regs d) o x = L at *
     obtain ⟨M2, le⟩ := L
     go_wp2_with fail
     go_meet
     go_light
     exact ⟨pc', le, M2, rfl, rfl, HW3.out, HB3.out, VStepTo.pair HST.out (by omega) HML.out HM3.out⟩
   ·as_aux_lemma =>
     have hnn : 1 ≤ nn ∧ nn ≤ 3 := call_num HNB.out rfl
     have hst := vstep_call s' d sr r o nn pc'
     have hml := HS'.out.call nn
     have HST := Lib.hid hst
     have HML := Lib.hid hml
     have HNN := Lib.hid hnn
     clear hst hml hnn
     go_wp2_with (go_at_call 63; refine (Asks_any _ _).mono ?_; rintro e w' ⟨rfl, rfl⟩; rw [asks_of])
     refine (VCall_any w.heap.size s' _ HISd.out nn HNN.out).mono ?_
     rintro e w3 ⟨rfl, hM3, hb3⟩
     have HW3 := Lib.hid (hb3.img HIWd.out (by omega) (Ne.symm hnb))
     have HB3 := Lib.hid (but_new HBd.out hb3 (Nat.le_refl _))
     have HM3 := Lib.hid hM3
     clear hb3 hM3
     generalize s'.call nn = L at *
     obtain ⟨M2, le⟩ := L
     go_wp2_with fail
     go_meet
     go_light
     exact ⟨pc', le, M2, rfl, rfl, HW3.out, HB3.out, VStepTo.pair HST.out (by omega) HML.out HM3.out⟩
   ·as_aux_lemma =>
     have k0 := cell_regrown f0; have k1 := cell_regrown f1
     have k5 := cell_regrown x0; have k6 := cell_regrown x1; have k7 := cell_regrown x2
     have cO : ∀ dr os, Calls Tryz.prog 60 #[.int .i64 0] (Go.Sort.grow (redrawn wd dr) os) fun e w'' => e = .returned (.agg #[.int .i64 0, .int .i64 0]) ∧ ∃ p : Regrown, w'' = Go.Sort.grow (redrawn wd p.d) p.os := fun dr os => Calls.regrown_of (One_any 0 _)
     have cN : ∀ dr os, Calls Tryz.prog 112 #[.agg #[.int .i64 0, .int .i64 0]] (Go.Sort.grow (redrawn wd dr) os) fun e w'' => e = .returned (.agg #[.int .i64 1, .int .i64 0, .int .i64 0]) ∧ ∃ p : Regrown, w'' = Go.Sort.grow (redrawn wd p.d) p.os := fun dr os => Calls.regrown_of (VNumber_any 0 0 _)
     have cL : ∀ dr os, Calls Tryz.prog 111 #[.int .i64 13, .agg #[.int .i64 (s'.regs d).kind, .int .i64 (s'.regs d).b.lo, .int .i64 (s'.regs d).b.hi], .agg #[.int .i64 1, .int .i64 0, .int .i64 0]] (Go.Sort.grow (redrawn wd dr) os) fun e w'' =>
      e = .returned (.tuple #[.agg #[.int .i64 (wcounts 13 (s'.regs d) (.num (bone 0))).1.kind, .int .i64 (wcounts 13 (s'.regs d) (.num (bone 0))).1.b.lo, .int .i64 (wcounts 13 (s'.regs d) (.num (bone 0))).1.b.hi], .int .i64 (wcounts 13 (s'.regs d) (.num (bone 0))).2]) ∧ ∃ p : Regrown, w'' = Go.Sort.grow (redrawn wd p.d) p.os := fun dr os => Calls.regrown_of (VCounts_any 13 (s'.regs d) (.num (bone 0)) (HS'.out.1 d) (WOk.num (bone_ok in64_0)) _)
     have hst := vstep_neg s' d sr r o nn pc'
     have hml := wcounts_ok (c := 13) (HS'.out.1 d) (WOk.num (bone_ok in64_0))
     generalize wcounts 13 (s'.regs d) (.num (bone 0)) = L at *
     obtain ⟨⟨lk2, ⟨ln, lc⟩⟩, le⟩ := L
     have HST := Lib.hid hst
     have HML := Lib.hid hml
     have CL := Lib.hid cL
     have CO := Lib.hid cO
     have CN := Lib.hid cN
     clear hst hml cL cO cN
     go_wp2_with (go_at_call 63; refine (Asks_any _ _).mono ?_; rintro e w' ⟨rfl, rfl⟩; rw [asks_of])
     refine wp_below_one 17 (by kernel_rfl) (by kernel_rfl) ?_
     repeat (quiet_step (first | exact CL.out _ _ | exact CO.out _ _ | exact CN.out _ _))
     refine wpQuiet_nil ?_
     intro wq hwq
     have hbq : Below wd.heap.size wd wq := by
      obtain ⟨p, hp⟩ := hwq
      rw [hp]; exact below_regrown _ _ _
     clear hwq
     clear k0 k1 k5 k6 k7 f0 f1 f2 f3 f4 f5 x0 x1 x2 y0 y1 y2 z0 z1 z2
     have IQ := HISd.out.later hbq zsd
     have HIQ := Lib.hid IQ
     have HWQ := Lib.hid (HIWd.out.later hbq zbd)
     have HBQ := Lib.hid (HBd.out.trans (But.of hbq))
     have q0 := IQ.cell (d * 3) (by omega); have q1 := IQ.cell (d * 3 + 1) (by omega); have q2 := IQ.cell (d * 3 + 2) (by omega)
     have p0 := IQ.free (d * 3) (by omega); have p1 := IQ.free (d * 3 + 1) (by omega); have p2 := IQ.free (d * 3 + 2) (by omega)
     clear IQ hbq
     go_wp2_with fail
     refine NoPanic.normal ?_
     go_wp2_with fail
     go_meet
     go_light
     refine ⟨pc', le, { s' with regs := upd s'.regs d ⟨lk2, ⟨ln, lc⟩⟩ }, rfl, rfl, ?_, ?_, ?_⟩
     ·(repeat' (first | with_reducible exact HWQ.out | with_reducible refine Img.drew ?_ | with_reducible refine Img.other ?_ ?_ _ | (simp; done) | (simp; omega) | omega))
     ·(repeat' (first | with_reducible exact HBQ.out | with_reducible refine But.drew ?_ | with_reducible refine but_set ?_ ?_ _ | (simp; done) | (simp; omega) | omega))
     ·refine VStepTo.pair HST.out (by omega) (HS'.out.setReg' d HML.out) ?_
      have K := (((HIQ.out.set (j := d * 3) (by omega) (wcell ⟨lk2, ⟨ln, lc⟩⟩ 0)).set (j := d * 3 + 1) (by omega) (wcell ⟨lk2, ⟨ln, lc⟩⟩ 1)).set (j := d * 3 + 2) (by omega) (wcell ⟨lk2, ⟨ln, lc⟩⟩ 2)).congr (simg_setreg dN ⟨lk2, ⟨ln, lc⟩⟩)
      first | with_reducible exact K | with_reducible exact K.drew | exact K
   ·as_aux_lemma =>
     have pn : pc' + 1 < n := by omega
     have k0 := cell_regrown f0; have k1 := cell_regrown f1; have k2 := cell_regrown f2; have k3 := cell_regrown f3; have k4 := cell_regrown f4; have k8 := cell_regrown f5
     have k5 := cell_regrown x0; have k6 := cell_regrown x1; have k7 := cell_regrown x2
     have t28 := vbeq_no (show c ≠ 28 by omega); have t14 := vbeq_no (show c ≠ 14 by omega); have t25 := vbeq_no (show c ≠ 25 by omega); have t26 := vbeq_no (show c ≠ 26 by omega); have t27 := vbeq_no (show c ≠ 27 by omega); have t13 := vbeq_no (show c ≠ 13 by omega)
     have t15 : decide (15 ≤ c) = false := by simp; omega
     have hst := vstep_make s' c hc d sr r o nn pc'
     have hx := HS'.out.second (t := ⟨c, d, sr, r, o, nn⟩) hin
     have cS : ∀ dr os, Calls Tryz.prog 109 #[.pointer (some ⟨w.heap.size, 0, none⟩), .agg #[.int .i64 c, .int .i64 d, .int .i64 sr, .bool r, .int .i64 o, .int .i64 nn]] (Go.Sort.grow (redrawn wd dr) os) fun e w'' =>
      e = .returned (.agg #[.int .i64 (s'.second ⟨c, d, sr, r, o, nn⟩).kind, .int .i64 (s'.second ⟨c, d, sr, r, o, nn⟩).b.lo, .int .i64 (s'.second ⟨c, d, sr, r, o, nn⟩).b.hi]) ∧ ∃ p : Regrown, w'' = Go.Sort.grow (redrawn wd p.d) p.os := fun dr os => Calls.regrown_of (VSecond_any w.heap.size s' _ (HISd.out.later (below_regrown wd dr os) zsd) c d sr r o nn sN)
     generalize s'.second ⟨c, d, sr, r, o, nn⟩ = x at *
     have cL : ∀ dr os, Calls Tryz.prog 111 #[.int .i64 c, .agg #[.int .i64 (s'.regs d).kind, .int .i64 (s'.regs d).b.lo, .int .i64 (s'.regs d).b.hi], .agg #[.int .i64 x.kind, .int .i64 x.b.lo, .int .i64 x.b.hi]] (Go.Sort.grow (redrawn wd dr) os) fun e w'' =>
      e = .returned (.tuple #[.agg #[.int .i64 (wcounts c (s'.regs d) x).1.kind, .int .i64 (wcounts c (s'.regs d) x).1.b.lo, .int .i64 (wcounts c (s'.regs d) x).1.b.hi], .int .i64 (wcounts c (s'.regs d) x).2]) ∧ ∃ p : Regrown, w'' = Go.Sort.grow (redrawn wd p.d) p.os := fun dr os => Calls.regrown_of (VCounts_any c (s'.regs d) x (HS'.out.1 d) hx _)
     have hml := wcounts_ok (c := c) (HS'.out.1 d) hx
     generalize wcounts c (s'.regs d) x = L at *
     obtain ⟨⟨lk2, ⟨ln, lc⟩⟩, le⟩ := L
     have CS := Lib.hid cS
     clear cS hx hc
     have HST := Lib.hid hst
     have HML := Lib.hid hml
     have CL := Lib.hid cL
     clear hst hml cL
     go_wp2_with (go_at_call 63; refine (Asks_any _ _).mono ?_; rintro e w' ⟨rfl, rfl⟩; rw [asks_of])
     refine wp_below_one 17 (by kernel_rfl) (by kernel_rfl) ?_
     repeat (quiet_step (first | exact CL.out _ _ | exact CS.out _ _))
     refine wpQuiet_nil ?_
     intro wq hwq
     have hbq : Below wd.heap.size wd wq := by
      obtain ⟨p, hp⟩ := hwq
      rw [hp]; exact below_regrown _ _ _
     clear hwq
     clear k0 k1 k2 k3 k4 k5 k6 k7 k8 f0 f1 f2 f3 f4 f5 x0 x1 x2 y0 y1 y2 z0 z1 z2
     have IQ := HISd.out.later hbq zsd
     have HIQ := Lib.hid IQ
     have HWQ := Lib.hid (HIWd.out.later hbq zbd)
     have HBQ := Lib.hid (HBd.out.trans (But.of hbq))
     have q0 := IQ.cell (d * 3) (by omega); have q1 := IQ.cell (d * 3 + 1) (by omega); have q2 := IQ.cell (d * 3 + 2) (by omega)
     have p0 := IQ.free (d * 3) (by omega); have p1 := IQ.free (d * 3 + 1) (by omega); have p2 := IQ.free (d * 3 + 2) (by omega)
     clear IQ hbq
     go_wp2_with fail
     refine NoPanic.normal ?_
     go_wp2_with fail
     go_meet
     go_light
     refine ⟨pc', le, { s' with regs := upd s'.regs d ⟨lk2, ⟨ln, lc⟩⟩ }, rfl, rfl, ?_, ?_, ?_⟩
     ·(repeat' (first | with_reducible exact HWQ.out | with_reducible refine Img.drew ?_ | with_reducible refine Img.other ?_ ?_ _ | (simp; done) | (simp; omega) | omega))
     ·(repeat' (first | with_reducible exact HBQ.out | with_reducible refine But.drew ?_ | with_reducible refine but_set ?_ ?_ _ | (simp; done) | (simp; omega) | omega))
     ·refine VStepTo.pair HST.out pn (HS'.out.setReg' d HML.out) ?_
      have K := (((HIQ.out.set (j := d * 3) (by omega) (wcell ⟨lk2, ⟨ln, lc⟩⟩ 0)).set (j := d * 3 + 1) (by omega) (wcell ⟨lk2, ⟨ln, lc⟩⟩ 1)).set (j := d * 3 + 2) (by omega) (wcell ⟨lk2, ⟨ln, lc⟩⟩ 2)).congr (simg_setreg dN ⟨lk2, ⟨ln, lc⟩⟩)
      first | with_reducible exact K | with_reducible exact K.drew | exact K
  case rest =>
   as_aux_lemma =>
    obtain ⟨q, er, s2, rfl, rfl, hW2, hB2, hS2⟩ := hcut
    obtain ⟨wx, hwx⟩ : ∃ x, x = wc := ⟨_, rfl⟩; subst hwx
    have HW2 := Lib.hid hW2
    have HB2 := Lib.hid hB2
    have zb2 : b < wx.heap.size := hW2.lt (by omega)
    clear hW2 hB2
    rcases hS2 with ⟨rfl, hq1, hq2, hmo, hma, hst⟩ | ⟨he, hq, hst⟩
    ·have hr2 := HRUN2.out
     rw [hst, ways_one (fun h0 => (vwalk_keeps HP.out f0' s2 _ ⟨lk + 1, en⟩ hmo (by omega) (by exact_mod_cast hq2) (by push_cast; omega)).place h0)] at hr2
     have HR2 := Lib.hid hr2
     have HMA := Lib.hid hma
     have HMO := Lib.hid hmo
     clear hr2 hst hma hmo
     go_wp2_with fail
     go_roundw
     case rel =>
      go_light
      exact ⟨q + 1, f0', s2, ⟨lk + 1, en⟩, by go_num, hq2, by omega, by omega, HMO.out, by show 0 ≤ lk + 1; omega, by show lk + 1 ≤ 4000; omega, HKE'.out, HR2.out, HMA.out, HW2.out, HB2.out⟩
     case measure => simp [intOf]; omega
    ·subst hq
     have hr2 := HRUN2.out
     rw [hst] at hr2
     subst hr2
     have HE := Lib.hid he
     have t1 := vbne_yes he
     have t0 := vbeq_no he
     clear hst he
     go_wp2_with fail
     refine (At_any _ _ _).mono ?_
     rintro e w3 ⟨rfl, q0, q1, q2, hb3⟩
     have HB3 := Lib.hid hb3
     clear hb3
     go_wp2_with fail
     go_ret
     exact ⟨_, rfl, .inr (.inr ⟨HE.out, _, rfl, q0, q1⟩), HW2.out.later HB3.out zb2, HB2.out.trans (But.of HB3.out)⟩
end Go.Proofs.YtpdlmbbgioenoaaGreatDoor.W
namespace Go.Proofs.YtpdlmbbgioenoaaGreatDoor.W
open Go.RowKit Go.Proofs.YtpdlmbbgioenoaaGreatDoor.P
theorem imgOf {w : World} {b n : Nat} {c : Array Value} {t : TypeId} {I : Nat → Value} (hb : w.heap[b]? = some (.cells c t (0, 0))) (e : c.toList = (List.range n).map I) : Img w b n I := by
 have hs : c.size = n := by rw [← Array.length_toList, e]; simp
 refine Img.of_cells hb hs.symm fun j hj => ?_
 rw [← Array.getElem?_toList, e]
 simp [hj]
theorem ErrIs.set0 {w : World} {v u : Value} {n p : Int} {g i : Nat} (h : ErrIs w v n p) (h0 : w.cell? ⟨g, 0, none⟩ = some (.int .i64 0)) : ErrIs (w.setCell ⟨g, i, none⟩ u) v n p := by
 rcases h with h | h | ⟨hne, b, hv, e0, e1⟩
 ·exact .inl h
 ·exact .inr (.inl h)
 ·have hbg : b ≠ g := by
   rintro rfl
   rw [e0] at h0
   simp at h0
   exact hne h0
  have B := (But.refl g w).setCell (p := ⟨g, i, none⟩) (.inl rfl) u
  exact .inr (.inr ⟨hne, b, hv, B.cell e0 hbg, B.cell e1 hbg⟩)
def vz : VS := ⟨fun _ => .nil, fun _ => .nil⟩
def vz1 : VS := { vz with regs := upd vz.regs 1 ⟨2, bone 0⟩ }
theorem vz_init : ({ vz1 with regs := upd vz1.regs 10 ⟨3, bone 0⟩ } : VS) = VS.init := by
 unfold VS.init vz1 vz
 simp only
 congr 1
 funext j
 unfold upd
 by_cases h1 : j = 1
 ·subst h1; rfl
 ·by_cases h2 : j = 10
  ·subst h2; rfl
  ·rw [if_neg h2, if_neg h1, if_neg h1, if_neg h2]
def VerIs (w : World) (r : (Int × Int) × P.B) (e : Ending) (w' : World) : Prop := ∃ v, e = .returned (.tuple #[.agg #[.int .i64 r.2.lo, .int .i64 r.2.hi], v]) ∧ ErrIs w' v r.1.1 r.1.2 ∧ Below w.heap.size w w'
set_option maxHeartbeats 4000000 in
theorem Verify_err (l : Value) (er p : Int) (he : er ≠ 0) (w : World) (hch : ∀ w', Below w.heap.size w w' → Calls Tryz.prog 28 #[l] w' fun e w'' => ∃ v, e = .returned v ∧ ErrIs w'' v er p ∧ Below w'.heap.size w' w'') :
  Calls Tryz.prog 27 #[l] w (VerIs w ((er, p), bnil)) := by
 have HW0 := Lib.hid (Below.refl w.heap.size w)
 have HCH := Lib.hid hch
 clear hch
 go_enter Tryz.func27, Tryz.ntmps27
 go_wp2_with fail
 refine (HCH.out _ (by repeat' (first | with_reducible (first | exact HW0.out | apply bR | apply bD | apply bN | apply bA | apply bS) | (simp; done) | (simp; omega) | omega))).mono ?_
 rintro e w1 ⟨v, rfl, hE, hb⟩
 obtain ⟨ty, xv, rfl⟩ := hE.noIface he
 obtain ⟨hc1, hf1⟩ := bcell hb
 have hz1 := hb.size
 simp at hz1
 have HW1 := Lib.hid (show Below w.heap.size w w1 from Below.trans (by repeat' (first | with_reducible (first | exact HW0.out | apply bR | apply bD | apply bN | apply bA | apply bS) | (simp; done) | (simp; omega) | omega)) (hb.mono (by first | omega | simp <;> omega)))
 have HE := Lib.hid hE
 clear hb hE
 have z10 : w.heap.size < w1.heap.size := by omega
 (have k1_w_heap_size_0 : w1.cell? ⟨w.heap.size, 0, none⟩ = some (.int .i64 0) := (by rw [hc1 _ _ (by first | omega | simp <;> omega)]; first | (simp [go_sem]; done) | assumption | (simp [go_sem, *]; done)); have r1_w_heap_size_0 : w1.frozen? ⟨w.heap.size, 0, none⟩ = false := (by rw [hf1 _ _ (by first | omega | simp <;> omega)]; first | (simp [go_sem]; done) | assumption | (simp [go_sem, *]; done)); have k1_w_heap_size_1 : w1.cell? ⟨w.heap.size, 1, none⟩ = some (.int .i64 0) := (by rw [hc1 _ _ (by first | omega | simp <;> omega)]; first | (simp [go_sem]; done) | assumption | (simp [go_sem, *]; done)); have r1_w_heap_size_1 : w1.frozen? ⟨w.heap.size, 1, none⟩ = false := (by rw [hf1 _ _ (by first | omega | simp <;> omega)]; first | (simp [go_sem]; done) | assumption | (simp [go_sem, *]; done)))
 clear hc1 hf1
 have HNE := Lib.hid he
 clear he
 go_wp2_with fail
 refine bodyPost_ret (v := .tuple #[.agg #[.int .i64 0, .int .i64 0], .iface ty xv]) ?_ rfl ⟨_, rfl, ?_, (by repeat' (first | with_reducible (first | exact HW1.out | apply bR | apply bD | apply bN | apply bA | apply bS) | (simp; done) | (simp; omega) | omega))⟩
 ·simp [results, Tryz.results27, go_sem, *]
 ·exact (HE.out.set0 k1_w_heap_size_0).set0 (World.cell?_setCell_same w1 _ _ k1_w_heap_size_0)
set_option maxHeartbeats 16000000 in
theorem Verify_go (a : Addr) (n cap : Nat) (S : Nat → Step) (hn : 1 ≤ n) (hn2 : n ≤ 200) (hcap : n ≤ cap) (w : World) (hs : Cells w a S n) (hP : ProgOk S n)
  (hch : ∀ w', Below w.heap.size w w' → Calls Tryz.prog 28 #[.slice (some a) n cap] w' fun e w'' => ∃ v, e = .returned v ∧ ErrIs w'' v 0 (-1) ∧ Below w'.heap.size w' w'') :
  Calls Tryz.prog 27 #[.slice (some a) n cap] w (VerIs w (if (vrun S n).1.1 ≠ 0 then ((vrun S n).1, bnil) else ((0, -1), outOf (vrun S n).2.ends))) := by
 have HW0 := Lib.hid (Below.refl w.heap.size w)
 obtain ⟨R, hR⟩ : ∃ R, (if (vrun S n).1.1 ≠ 0 then ((vrun S n).1, bnil) else ((0, -1), outOf (vrun S n).2.ends)) = R := ⟨_, rfl⟩
 rw [hR]
 have HR := Lib.hid hR
 clear hR
 have HP := Lib.hid hP
 clear hP
 have HCH := Lib.hid hch
 have HSS := Lib.hid hs
 have hab : a.block < w.heap.size := by have := block_lt_of_cell (hs 0 (by omega)).1; simpa [Addr.add] using this
 clear hch hs
 go_enter Tryz.func27, Tryz.ntmps27
 go_wp2_with fail
 refine (HCH.out _ (by repeat' (first | with_reducible (first | exact HW0.out | apply bR | apply bD | apply bN | apply bA | apply bS) | (simp; done) | (simp; omega) | omega))).mono ?_
 rintro e w1 ⟨v, rfl, hE, hb⟩
 obtain rfl := hE.nil0 rfl
 obtain ⟨hc1, hf1⟩ := bcell hb
 have hz1 := hb.size
 simp at hz1
 have HW1 := Lib.hid (show Below w.heap.size w w1 from Below.trans (by repeat' (first | with_reducible (first | exact HW0.out | apply bR | apply bD | apply bN | apply bA | apply bS) | (simp; done) | (simp; omega) | omega)) (hb.mono (by first | omega | simp <;> omega)))
 clear hb hE
 have z10 : w.heap.size < w1.heap.size := by omega
 (have k1_w_heap_size_0 : w1.cell? ⟨w.heap.size, 0, none⟩ = some (.int .i64 0) := (by rw [hc1 _ _ (by first | omega | simp <;> omega)]; first | (simp [go_sem]; done) | assumption | (simp [go_sem, *]; done)); have r1_w_heap_size_0 : w1.frozen? ⟨w.heap.size, 0, none⟩ = false := (by rw [hf1 _ _ (by first | omega | simp <;> omega)]; first | (simp [go_sem]; done) | assumption | (simp [go_sem, *]; done)); have k1_w_heap_size_1 : w1.cell? ⟨w.heap.size, 1, none⟩ = some (.int .i64 0) := (by rw [hc1 _ _ (by first | omega | simp <;> omega)]; first | (simp [go_sem]; done) | assumption | (simp [go_sem, *]; done)); have r1_w_heap_size_1 : w1.frozen? ⟨w.heap.size, 1, none⟩ = false := (by rw [hf1 _ _ (by first | omega | simp <;> omega)]; first | (simp [go_sem]; done) | assumption | (simp [go_sem, *]; done)))
 clear hc1 hf1
 go_upto_region 6 with fail
 generalize hW : World.alloc (World.alloc w1 _) _ = w2
 have IS : P.Img w2 (w1.heap.size + 1) 81 (simg wcell vz) := by
  rw [← hW]
  exact imgOf (by simpa using heap_alloc_new (World.alloc w1 _) _) (by kernel_rfl)
 have IW : P.Img w2 w1.heap.size 5 (wimg (.slice (some a) n cap) ⟨0, []⟩) := by
  rw [← hW]
  exact Img.alloc (imgOf (heap_alloc_new w1 _) (by kernel_rfl)) _
 have hb2 : Below w1.heap.size w1 w2 := hW ▸ ((Below.refl _ _).alloc (Nat.le_refl _) _).alloc (by simp) _
 clear hW
 have HIw2 := Lib.hid IS
 have HWw2 := Lib.hid IW
 have HBw2 := Lib.hid (HW1.out.trans (hb2.mono (by omega)))
 have IR : P.Img w1 w.heap.size 2 (fun _ => .int .i64 0) := fun j hj => by
  rcases j with _ | _ | j
  ·exact ⟨k1_w_heap_size_0, r1_w_heap_size_0⟩
  ·exact ⟨k1_w_heap_size_1, r1_w_heap_size_1⟩
  ·omega
 have HRw2 := Lib.hid (IR.later hb2 z10)
 have zsw2 := IS.lt (by omega)
 have zbw2 := IW.lt (by omega)
 have zrw2 := HRw2.out.lt (by omega)
 have yyw2 : w.heap.size ≤ w2.heap.size := HBw2.out.size
 clear IS IW hb2 IR k1_w_heap_size_0 r1_w_heap_size_0 k1_w_heap_size_1 r1_w_heap_size_1 HW1
 go_wp2_with fail
 refine (One_any 0 _).mono ?_
 rintro e w3 ⟨rfl, hb⟩
 have Iw3 := HIw2.out.later hb zsw2
 have HWw3 := Lib.hid (HWw2.out.later hb zbw2)
 have HBw3 := Lib.hid (HBw2.out.trans (hb.mono (by omega)))
 have HRw3 := Lib.hid (HRw2.out.later hb zrw2)
 obtain ⟨vvw33, d0⟩ : ∃ v, w3.cell? ⟨w1.heap.size + 1, 3, none⟩ = some v := ⟨_, Iw3.cell 3 (by omega)⟩
 obtain ⟨vvw34, d1⟩ : ∃ v, w3.cell? ⟨w1.heap.size + 1, 4, none⟩ = some v := ⟨_, Iw3.cell 4 (by omega)⟩
 obtain ⟨vvw35, d2⟩ : ∃ v, w3.cell? ⟨w1.heap.size + 1, 5, none⟩ = some v := ⟨_, Iw3.cell 5 (by omega)⟩
 have g0 := Iw3.free 3 (by omega); have g1 := Iw3.free 4 (by omega); have g2 := Iw3.free 5 (by omega)
 have HIw3 := Lib.hid Iw3
 have yw3 : w2.heap.size ≤ w3.heap.size := hb.size
 clear hb Iw3
 go_upto_region 7 with fail
 generalize hW : World.setCell (World.setCell (World.setCell w3 _ _) _ _) _ _ = w4
 have Iw4 : P.Img w4 (w1.heap.size + 1) 81 (simg wcell vz1) := by
  rw [← hW]
  have K := (((HIw3.out.set (j := 3) (by omega) (wcell ⟨2, bone 0⟩ 0)).set (j := 4) (by omega) (wcell ⟨2, bone 0⟩ 1)).set (j := 5) (by omega) (wcell ⟨2, bone 0⟩ 2)).congr (simg_setreg (by omega : 1 < 11) ⟨2, bone 0⟩)
  exact K
 have HIw4 := Lib.hid Iw4
 have Bw4 : But (w1.heap.size + 1) w3 w4 := hW ▸ (((But.refl (w1.heap.size + 1) w3).setCell (.inl rfl) _).setCell (.inl rfl) _).setCell (.inl rfl) _
 have HWw4 := Lib.hid (Bw4.img HWw3.out (by omega) (by omega))
 have HRw4 := Lib.hid (Bw4.img HRw3.out (by omega) (by omega))
 have HBw4 := Lib.hid (show Below w.heap.size w w4 from hW ▸ ((HBw3.out.setCell (by simp; omega) _).setCell (by simp; omega) _).setCell (by simp; omega) _)
 have zsw4 := Iw4.lt (by omega)
 have zbw4 := HWw4.out.lt (by omega)
 have zrw4 := HRw4.out.lt (by omega)
 have yyw4 : w.heap.size ≤ w4.heap.size := HBw4.out.size
 clear hW Iw4 Bw4 d0 d1 d2 g0 g1 g2
 go_wp2_with fail
 refine (One_any 0 _).mono ?_
 rintro e w5 ⟨rfl, hb⟩
 have Iw5 := HIw4.out.later hb zsw4
 have HWw5 := Lib.hid (HWw4.out.later hb zbw4)
 have HBw5 := Lib.hid (HBw4.out.trans (hb.mono (by omega)))
 have HRw5 := Lib.hid (HRw4.out.later hb zrw4)
 obtain ⟨vvw530, d0⟩ : ∃ v, w5.cell? ⟨w1.heap.size + 1, 30, none⟩ = some v := ⟨_, Iw5.cell 30 (by omega)⟩
 obtain ⟨vvw531, d1⟩ : ∃ v, w5.cell? ⟨w1.heap.size + 1, 31, none⟩ = some v := ⟨_, Iw5.cell 31 (by omega)⟩
 obtain ⟨vvw532, d2⟩ : ∃ v, w5.cell? ⟨w1.heap.size + 1, 32, none⟩ = some v := ⟨_, Iw5.cell 32 (by omega)⟩
 have g0 := Iw5.free 30 (by omega); have g1 := Iw5.free 31 (by omega); have g2 := Iw5.free 32 (by omega)
 have HIw5 := Lib.hid Iw5
 have yw5 : w4.heap.size ≤ w5.heap.size := hb.size
 clear hb Iw5
 go_upto_region 8 with fail
 generalize hW : World.setCell (World.setCell (World.setCell w5 _ _) _ _) _ _ = w6
 have Iw6 : P.Img w6 (w1.heap.size + 1) 81 (simg wcell VS.init) := by
  rw [← hW]
  have K := (((HIw5.out.set (j := 30) (by omega) (wcell ⟨3, bone 0⟩ 0)).set (j := 31) (by omega) (wcell ⟨3, bone 0⟩ 1)).set (j := 32) (by omega) (wcell ⟨3, bone 0⟩ 2)).congr (simg_setreg (by omega : 10 < 11) ⟨3, bone 0⟩)
  rw [vz_init] at K
  exact K
 have HIw6 := Lib.hid Iw6
 have Bw6 : But (w1.heap.size + 1) w5 w6 := hW ▸ (((But.refl (w1.heap.size + 1) w5).setCell (.inl rfl) _).setCell (.inl rfl) _).setCell (.inl rfl) _
 have HWw6 := Lib.hid (Bw6.img HWw5.out (by omega) (by omega))
 have HRw6 := Lib.hid (Bw6.img HRw5.out (by omega) (by omega))
 have HBw6 := Lib.hid (show Below w.heap.size w w6 from hW ▸ ((HBw5.out.setCell (by simp; omega) _).setCell (by simp; omega) _).setCell (by simp; omega) _)
 have zsw6 := Iw6.lt (by omega)
 have zbw6 := HWw6.out.lt (by omega)
 have zrw6 := HRw6.out.lt (by omega)
 have yyw6 : w.heap.size ≤ w6.heap.size := HBw6.out.size
 clear hW Iw6 Bw6 d0 d1 d2 g0 g1 g2
 have HI0 := HIw6
 have hC6 : Cells w6 a S n := HSS.out.later HBw6.out
 have HC6 := Lib.hid hC6
 clear hC6
 go_wp2_with (first | (with_reducible refine vl_load (by simp [go_sem]; done) 160 (.tmp 6) rfl (w1.heap.size + 1) 0 (by simp [go_sem]; done) (scells wcell VS.init) _ (Img.scells HI0.out) Tryz.underlying160 rfl (size_state _) ?_))
 refine (VWalk_any S a n cap w1.heap.size hcap hn2 (by omega) HP.out.step HP.out.wrong HP.out.off n VS.init 0 ⟨0, []⟩ w6 VSOk.init (by omega) (by omega) (Int.le_refl _) (by show (0:Int) ≤ 4000; omega) (by simp) HC6.out HWw6.out).mono ?_
 intro e w7 hp
 obtain ⟨v, rfl, hE, hI7, hB7⟩ := hp
 have hE : ErrIs w7 v (vrun S n).1.1 (vrun S n).1.2 := hE
 have hI7 : P.Img w7 w1.heap.size 5 (wimg (.slice (some a) n cap) (vrun S n).2) := hI7
 have IR7 := hB7.img HRw6.out (by omega) (by omega)
 have r0 := IR7.cell 0 (by omega); have r1 := IR7.cell 1 (by omega)
 have t0 := IR7.free 0 (by omega); have t1 := IR7.free 1 (by omega)
 have HB7 := Lib.hid (HBw6.out.trans ((hB7.below (by omega)).mono (by omega)))
 have o3 : w7.cell? ⟨w1.heap.size, 3, none⟩ = some (.int .i64 (outOf (vrun S n).2.ends).lo) := hI7.cell 3 (by omega)
 have o4 : w7.cell? ⟨w1.heap.size, 4, none⟩ = some (.int .i64 (outOf (vrun S n).2.ends).hi) := hI7.cell 4 (by omega)
 have hr := HR.out
 have nr : ¬ w.heap.size = w1.heap.size := by omega
 have nr2 : ¬ w1.heap.size = w.heap.size := by omega
 clear hB7 hI7 IR7 HWw6 HRw6 HIw6 HI0 HC6 HBw6
 by_cases he : (vrun S n).1.1 = 0
 ·rw [if_neg (by simp [he])] at hr
  subst hr
  obtain rfl := hE.nil0 he
  generalize outOf (vrun S n).2.ends = d at *
  obtain ⟨dl, dh⟩ := d
  simp only at o3 o4
  have HE := Lib.hid he
  clear hE he
  go_wp2_with fail
  refine bodyPost_ret (v := .tuple #[.agg #[.int .i64 dl, .int .i64 dh], .nilIface]) ?_ rfl ⟨_, rfl, .inl ⟨rfl, rfl, rfl⟩, ?_⟩
  ·simp [results, Tryz.results27, go_sem, *]
  ·exact (HB7.out.setCell (by simp) _).setCell (by simp) _
 ·rw [if_pos he] at hr
  subst hr
  obtain ⟨ty, xv, rfl⟩ := hE.noIface he
  have HE := Lib.hid hE
  have HNE := Lib.hid he
  clear hE he
  go_wp2_with fail
  refine bodyPost_ret (v := .tuple #[.agg #[.int .i64 0, .int .i64 0], .iface ty xv]) ?_ rfl ⟨_, rfl, ?_, ?_⟩
  ·simp [results, Tryz.results27, go_sem, *]
  ·exact (HE.out.set0 r0).set0 (World.cell?_setCell_same w7 _ _ r0)
  ·exact (HB7.out.setCell (by simp) _).setCell (by simp) _
theorem ProgOk.of {S : Nat → Step} {n : Nat} (h : (from_ S n 0 n).1 = 0) (hin : ∀ j, j < n → In64 (S j).off ∧ In64 (S j).num) : ProgOk S n := by
 have ok := fun j (hj : j < n) => from_ok n 0 (by omega) h j (by omega) hj
 exact ⟨fun j hj => stepOk_of hj (ok j hj) (hin j hj).2, fun j hj => (at_ok (ok j hj)).1, fun j hj => (hin j hj).1⟩
theorem Verify_full (oa : Option Addr) (n cap : Nat) (S : Nat → Step) (hcap : n ≤ cap) (w : World) (hs : ProgAt w oa S n) (hin : ∀ j, j < n → In64 (S j).off ∧ In64 (S j).num) (hg : w.cell? ⟨4, 0, none⟩ = some (.iface 298 (.agg #[.pointer (some ⟨14, 26, none⟩)]))) :
  Calls Tryz.prog 27 #[.slice oa n cap] w (VerIs w (verify S n)) := by
 have gz := block_lt_of_cell hg
 unfold verify check
 by_cases h : n < 1 ∨ 200 < n
 ·rw [if_pos h, if_pos (by simp)]
  exact Verify_err _ 4 (-1) (by decide) w fun w' hb => (Check_limit oa n cap h hcap w').mono fun e w'' ⟨he, hw⟩ => ⟨_, he, .inr (.inl ⟨by decide, rfl, rfl⟩), by rw [hw]; exact Below.refl _ _⟩
 ·rw [if_neg h]
  obtain ⟨a, ea, hs2⟩ := hs (by omega)
  subst ea
  by_cases h0 : (from_ S n 0 n).1 = 0
  ·rw [if_neg (by simp [h0])]
   refine Verify_go a n cap S (by omega) (by omega) hcap w hs2 (ProgOk.of h0 hin) fun w' hb => (Check_some a n cap S (by omega) (by omega) hcap w' (hs2.later hb) ((hb.cell gz).trans hg)).mono fun e w'' ⟨v, he, hv, hb2⟩ => ⟨v, he, ?_, hb2⟩
   rw [from_zero _ _ h0] at hv
   exact hv
  ·rw [if_pos h0]
   exact Verify_err _ _ _ h0 w fun w' hb => (Check_some a n cap S (by omega) (by omega) hcap w' (hs2.later hb) ((hb.cell gz).trans hg)).mono fun e w'' ⟨v, he, hv, hb2⟩ => ⟨v, he, hv, hb2⟩
end Go.Proofs.YtpdlmbbgioenoaaGreatDoor.W
