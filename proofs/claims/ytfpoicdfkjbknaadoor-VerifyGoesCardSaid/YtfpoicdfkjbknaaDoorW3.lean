/- The walk of the reference's combine: a place, and a number; combine by contract. Conditions: the bounds have their ends in order; the variable all holds the least and the greatest number. -/
import Derived.Test.YtfpoicdfkjbknaaDoorW2
namespace Go.Proofs.YtfpoicdfkjbknaaDoor.W
open Go.RowKit Go.Proofs.YtfpoicdfkjbknaaDoor.P
set_option linter.unusedSimpArgs false
set_option linter.unusedVariables false

theorem RPlace_num (lo hi : Int) (w : World) :
  Calls Tryd.prog 80 #[.agg #[.int .u8 110, .int .i64 lo, .int .i64 hi]] w fun e w' => e = .returned (.bool false) ∧ w.alloc (.cells #[.int .u8 110, .int .i64 lo, .int .i64 hi] 100) = w' := RPlace_no 1 lo hi (by simp) w

set_option maxRecDepth 100000 in
set_option maxHeartbeats 4000000 in
theorem RC_shift2 (ka la ha lb hb : Int) (hp : ka = 2 ∨ ka = 3 ∨ ka = 4) (oa : P.B.Ok ⟨la, ha⟩) (ob : P.B.Ok ⟨lb, hb⟩) (w : World) (hg : AllAt w) :
  Calls Tryd.prog 58 #[.int .i64 2, .agg #[.int .u8 (letter ka), .int .i64 la, .int .i64 ha], .agg #[.int .u8 110, .int .i64 lb, .int .i64 hb]] w fun e w' =>
   e = .returned (.tuple #[.agg #[.int .u8 (if bdoes 2 ⟨la, ha⟩ ⟨lb, hb⟩ = ball then 0 else letter ka), .int .i64 (if bdoes 2 ⟨la, ha⟩ ⟨lb, hb⟩ = ball then 0 else (bdoes 2 ⟨la, ha⟩ ⟨lb, hb⟩).lo), .int .i64 (if bdoes 2 ⟨la, ha⟩ ⟨lb, hb⟩ = ball then 0 else (bdoes 2 ⟨la, ha⟩ ⟨lb, hb⟩).hi)], .int .i64 (if bdoes 2 ⟨la, ha⟩ ⟨lb, hb⟩ = ball then 2 else 0)]) ∧ Below w.heap.size w w' := by
 have gz := hg.lt
 have HW0 := Lib.hid (Below.refl w.heap.size w)
 have HPA := Lib.hid hp
 have ta := rbeq_no (show letter ka ≠ 0 from fun e => by rcases hp with rfl | rfl | rfl <;> simp [letter] at e)
 have tb := rbeq_no (show letter ka ≠ 110 from fun e => by rcases hp with rfl | rfl | rfl <;> simp [letter] at e)
 clear hp
 have C := Lib.hid (fun w (hg : AllAt w) => RefBDoes_any 2 la ha lb hb oa.1 oa.2.1 ob.1 ob.2.1 oa.2.2 ob.2.2 w hg.1 hg.2 hg.lt)
 generalize bdoes 2 ⟨la, ha⟩ ⟨lb, hb⟩ = d at *
 obtain ⟨dl, dh⟩ := d
 have hd : ((⟨dl, dh⟩ : P.B) = ball) ↔ (dl = -9223372036854775808 ∧ dh = 9223372036854775807) := by unfold ball; simp
 have HD := Lib.hid hd
 have HG := Lib.hid hg
 clear oa ob hd hg
 go_enter Tryd.func58, Tryd.ntmps58
 go_wp2_with (first | (go_at_call 80; with_reducible refine (RPlace_num _ _ _).mono ?_; rintro e w' ⟨rfl, rfl⟩) | (go_at_call 80; with_reducible refine (RPlace_yes ka _ _ HPA.out _).mono ?_; rintro e w' ⟨rfl, rfl⟩))
 refine (C.out _ (HG.out.later (by repeat' (first | with_reducible (first | exact HW0.out | apply bR | apply bD | apply bN | apply bA | apply bS) | (simp; done) | (simp; omega) | omega)))).mono ?_
 (rintro e w1 ⟨rfl, hb⟩; obtain ⟨hc1, hf1⟩ := bcell hb; have hz1 := hb.size; (try simp at hz1); have HW1 := Lib.hid (show Below w.heap.size w w1 from Below.trans (by repeat' (first | with_reducible (first | exact HW0.out | apply bR | apply bD | apply bN | apply bA | apply bS) | (simp; done) | (simp; omega) | omega)) (hb.mono (by first | omega | simp <;> omega))); clear hb; (try have z10 : w.heap.size < w1.heap.size := by omega); (try have z11 : w.heap.size + 1 < w1.heap.size := by omega); (try have z12 : w.heap.size + 1 + 1 < w1.heap.size := by omega); (try have z13 : w.heap.size + 1 + 1 + 1 < w1.heap.size := by omega))
 have hga := HG.out.later HW1.out
 have gz1 := hga.lt
 obtain ⟨hg0, hg1⟩ := hga
 (have k1_w_heap_size_0 : w1.cell? ⟨w.heap.size, 0, none⟩ = some (.int .u8 (letter ka)) := (by rw [hc1 _ _ (by first | omega | simp <;> omega)]; first | (simp [go_sem]; done) | assumption | (simp [go_sem, *]; done)); have r1_w_heap_size_0 : w1.frozen? ⟨w.heap.size, 0, none⟩ = false := (by rw [hf1 _ _ (by first | omega | simp <;> omega)]; first | (simp [go_sem]; done) | assumption | (simp [go_sem, *]; done)); have k1_w_heap_size_1 : w1.cell? ⟨w.heap.size, 1, none⟩ = some (.int .i64 la) := (by rw [hc1 _ _ (by first | omega | simp <;> omega)]; first | (simp [go_sem]; done) | assumption | (simp [go_sem, *]; done)); have r1_w_heap_size_1 : w1.frozen? ⟨w.heap.size, 1, none⟩ = false := (by rw [hf1 _ _ (by first | omega | simp <;> omega)]; first | (simp [go_sem]; done) | assumption | (simp [go_sem, *]; done)); have k1_w_heap_size_2 : w1.cell? ⟨w.heap.size, 2, none⟩ = some (.int .i64 ha) := (by rw [hc1 _ _ (by first | omega | simp <;> omega)]; first | (simp [go_sem]; done) | assumption | (simp [go_sem, *]; done)); have r1_w_heap_size_2 : w1.frozen? ⟨w.heap.size, 2, none⟩ = false := (by rw [hf1 _ _ (by first | omega | simp <;> omega)]; first | (simp [go_sem]; done) | assumption | (simp [go_sem, *]; done)))
 (have k1_w_heap_size_1_0 : w1.cell? ⟨w.heap.size + 1, 0, none⟩ = some (.int .u8 110) := (by rw [hc1 _ _ (by first | omega | simp <;> omega)]; first | (simp [go_sem]; done) | assumption | (simp [go_sem, *]; done)); have r1_w_heap_size_1_0 : w1.frozen? ⟨w.heap.size + 1, 0, none⟩ = false := (by rw [hf1 _ _ (by first | omega | simp <;> omega)]; first | (simp [go_sem]; done) | assumption | (simp [go_sem, *]; done)); have k1_w_heap_size_1_1 : w1.cell? ⟨w.heap.size + 1, 1, none⟩ = some (.int .i64 lb) := (by rw [hc1 _ _ (by first | omega | simp <;> omega)]; first | (simp [go_sem]; done) | assumption | (simp [go_sem, *]; done)); have r1_w_heap_size_1_1 : w1.frozen? ⟨w.heap.size + 1, 1, none⟩ = false := (by rw [hf1 _ _ (by first | omega | simp <;> omega)]; first | (simp [go_sem]; done) | assumption | (simp [go_sem, *]; done)); have k1_w_heap_size_1_2 : w1.cell? ⟨w.heap.size + 1, 2, none⟩ = some (.int .i64 hb) := (by rw [hc1 _ _ (by first | omega | simp <;> omega)]; first | (simp [go_sem]; done) | assumption | (simp [go_sem, *]; done)); have r1_w_heap_size_1_2 : w1.frozen? ⟨w.heap.size + 1, 2, none⟩ = false := (by rw [hf1 _ _ (by first | omega | simp <;> omega)]; first | (simp [go_sem]; done) | assumption | (simp [go_sem, *]; done)))
 (have k1_w_heap_size_1_1_0 : w1.cell? ⟨w.heap.size + 1 + 1, 0, none⟩ = some (.int .u8 0) := (by rw [hc1 _ _ (by first | omega | simp <;> omega)]; first | (simp [go_sem]; done) | assumption | (simp [go_sem, *]; done)); have r1_w_heap_size_1_1_0 : w1.frozen? ⟨w.heap.size + 1 + 1, 0, none⟩ = false := (by rw [hf1 _ _ (by first | omega | simp <;> omega)]; first | (simp [go_sem]; done) | assumption | (simp [go_sem, *]; done)); have k1_w_heap_size_1_1_1 : w1.cell? ⟨w.heap.size + 1 + 1, 1, none⟩ = some (.int .i64 0) := (by rw [hc1 _ _ (by first | omega | simp <;> omega)]; first | (simp [go_sem]; done) | assumption | (simp [go_sem, *]; done)); have r1_w_heap_size_1_1_1 : w1.frozen? ⟨w.heap.size + 1 + 1, 1, none⟩ = false := (by rw [hf1 _ _ (by first | omega | simp <;> omega)]; first | (simp [go_sem]; done) | assumption | (simp [go_sem, *]; done)); have k1_w_heap_size_1_1_2 : w1.cell? ⟨w.heap.size + 1 + 1, 2, none⟩ = some (.int .i64 0) := (by rw [hc1 _ _ (by first | omega | simp <;> omega)]; first | (simp [go_sem]; done) | assumption | (simp [go_sem, *]; done)); have r1_w_heap_size_1_1_2 : w1.frozen? ⟨w.heap.size + 1 + 1, 2, none⟩ = false := (by rw [hf1 _ _ (by first | omega | simp <;> omega)]; first | (simp [go_sem]; done) | assumption | (simp [go_sem, *]; done)))
 have ng : ¬ 4 = w1.heap.size := by omega
 clear hc1 hf1 HG
 by_cases e : dl = -9223372036854775808 ∧ dh = 9223372036854775807
 ·have yes := Lib.hid (HD.out.2 e)
  obtain ⟨rfl, rfl⟩ := e
  go_wp2_with fail
  refine bodyPost_ret (v := .tuple #[.agg #[.int .u8 0, .int .i64 0, .int .i64 0], .int .i64 2]) ?_ rfl ⟨by have ye := yes.out; first | rfl | simp [ye], (by repeat' (first | with_reducible (first | exact HW1.out | apply bR | apply bD | apply bN | apply bA | apply bS) | (simp; done) | (simp; omega) | omega))⟩
  simp [results, Tryd.results58, go_sem, *]
 ·have NE := Lib.hid (show ¬ ((⟨dl, dh⟩ : P.B) = ball) from fun h => e (HD.out.1 h))
  clear HD
  by_cases e1 : dl = -9223372036854775808
  ·have e2 : ¬ dh = 9223372036854775807 := fun h => e ⟨e1, h⟩
   subst e1
   have e3 := rbeq_no e2
   clear e e2
   go_wp2_with fail
   refine bodyPost_ret (v := .tuple #[.agg #[.int .u8 (letter ka), .int .i64 (-9223372036854775808), .int .i64 dh], .int .i64 0]) ?_ rfl ⟨by have ne := NE.out; first | rfl | simp [ne], (by repeat' (first | with_reducible (first | exact HW1.out | apply bR | apply bD | apply bN | apply bA | apply bS) | (simp; done) | (simp; omega) | omega))⟩
   simp [results, Tryd.results58, go_sem, *]
  ·have e3 := rbeq_no e1
   clear e e1
   go_wp2_with fail
   refine bodyPost_ret (v := .tuple #[.agg #[.int .u8 (letter ka), .int .i64 dl, .int .i64 dh], .int .i64 0]) ?_ rfl ⟨by have ne := NE.out; first | rfl | simp [ne], (by repeat' (first | with_reducible (first | exact HW1.out | apply bR | apply bD | apply bN | apply bA | apply bS) | (simp; done) | (simp; omega) | omega))⟩
   simp [results, Tryd.results58, go_sem, *]

set_option maxRecDepth 100000 in
set_option maxHeartbeats 4000000 in
theorem RC_shift3 (ka la ha lb hb : Int) (hp : ka = 2 ∨ ka = 3 ∨ ka = 4) (oa : P.B.Ok ⟨la, ha⟩) (ob : P.B.Ok ⟨lb, hb⟩) (w : World) (hg : AllAt w) :
  Calls Tryd.prog 58 #[.int .i64 3, .agg #[.int .u8 (letter ka), .int .i64 la, .int .i64 ha], .agg #[.int .u8 110, .int .i64 lb, .int .i64 hb]] w fun e w' =>
   e = .returned (.tuple #[.agg #[.int .u8 (if bdoes 3 ⟨la, ha⟩ ⟨lb, hb⟩ = ball then 0 else letter ka), .int .i64 (if bdoes 3 ⟨la, ha⟩ ⟨lb, hb⟩ = ball then 0 else (bdoes 3 ⟨la, ha⟩ ⟨lb, hb⟩).lo), .int .i64 (if bdoes 3 ⟨la, ha⟩ ⟨lb, hb⟩ = ball then 0 else (bdoes 3 ⟨la, ha⟩ ⟨lb, hb⟩).hi)], .int .i64 (if bdoes 3 ⟨la, ha⟩ ⟨lb, hb⟩ = ball then 2 else 0)]) ∧ Below w.heap.size w w' := by
 have gz := hg.lt
 have HW0 := Lib.hid (Below.refl w.heap.size w)
 have HPA := Lib.hid hp
 have ta := rbeq_no (show letter ka ≠ 0 from fun e => by rcases hp with rfl | rfl | rfl <;> simp [letter] at e)
 have tb := rbeq_no (show letter ka ≠ 110 from fun e => by rcases hp with rfl | rfl | rfl <;> simp [letter] at e)
 clear hp
 have C := Lib.hid (fun w (hg : AllAt w) => RefBDoes_any 3 la ha lb hb oa.1 oa.2.1 ob.1 ob.2.1 oa.2.2 ob.2.2 w hg.1 hg.2 hg.lt)
 generalize bdoes 3 ⟨la, ha⟩ ⟨lb, hb⟩ = d at *
 obtain ⟨dl, dh⟩ := d
 have hd : ((⟨dl, dh⟩ : P.B) = ball) ↔ (dl = -9223372036854775808 ∧ dh = 9223372036854775807) := by unfold ball; simp
 have HD := Lib.hid hd
 have HG := Lib.hid hg
 clear oa ob hd hg
 go_enter Tryd.func58, Tryd.ntmps58
 go_wp2_with (first | (go_at_call 80; with_reducible refine (RPlace_yes ka _ _ HPA.out _).mono ?_; rintro e w' ⟨rfl, rfl⟩))
 refine (C.out _ (HG.out.later (by repeat' (first | with_reducible (first | exact HW0.out | apply bR | apply bD | apply bN | apply bA | apply bS) | (simp; done) | (simp; omega) | omega)))).mono ?_
 (rintro e w1 ⟨rfl, hb⟩; obtain ⟨hc1, hf1⟩ := bcell hb; have hz1 := hb.size; (try simp at hz1); have HW1 := Lib.hid (show Below w.heap.size w w1 from Below.trans (by repeat' (first | with_reducible (first | exact HW0.out | apply bR | apply bD | apply bN | apply bA | apply bS) | (simp; done) | (simp; omega) | omega)) (hb.mono (by first | omega | simp <;> omega))); clear hb; (try have z10 : w.heap.size < w1.heap.size := by omega); (try have z11 : w.heap.size + 1 < w1.heap.size := by omega); (try have z12 : w.heap.size + 1 + 1 < w1.heap.size := by omega); (try have z13 : w.heap.size + 1 + 1 + 1 < w1.heap.size := by omega))
 have hga := HG.out.later HW1.out
 have gz1 := hga.lt
 obtain ⟨hg0, hg1⟩ := hga
 (have k1_w_heap_size_0 : w1.cell? ⟨w.heap.size, 0, none⟩ = some (.int .u8 (letter ka)) := (by rw [hc1 _ _ (by first | omega | simp <;> omega)]; first | (simp [go_sem]; done) | assumption | (simp [go_sem, *]; done)); have r1_w_heap_size_0 : w1.frozen? ⟨w.heap.size, 0, none⟩ = false := (by rw [hf1 _ _ (by first | omega | simp <;> omega)]; first | (simp [go_sem]; done) | assumption | (simp [go_sem, *]; done)); have k1_w_heap_size_1 : w1.cell? ⟨w.heap.size, 1, none⟩ = some (.int .i64 la) := (by rw [hc1 _ _ (by first | omega | simp <;> omega)]; first | (simp [go_sem]; done) | assumption | (simp [go_sem, *]; done)); have r1_w_heap_size_1 : w1.frozen? ⟨w.heap.size, 1, none⟩ = false := (by rw [hf1 _ _ (by first | omega | simp <;> omega)]; first | (simp [go_sem]; done) | assumption | (simp [go_sem, *]; done)); have k1_w_heap_size_2 : w1.cell? ⟨w.heap.size, 2, none⟩ = some (.int .i64 ha) := (by rw [hc1 _ _ (by first | omega | simp <;> omega)]; first | (simp [go_sem]; done) | assumption | (simp [go_sem, *]; done)); have r1_w_heap_size_2 : w1.frozen? ⟨w.heap.size, 2, none⟩ = false := (by rw [hf1 _ _ (by first | omega | simp <;> omega)]; first | (simp [go_sem]; done) | assumption | (simp [go_sem, *]; done)))
 (have k1_w_heap_size_1_0 : w1.cell? ⟨w.heap.size + 1, 0, none⟩ = some (.int .u8 110) := (by rw [hc1 _ _ (by first | omega | simp <;> omega)]; first | (simp [go_sem]; done) | assumption | (simp [go_sem, *]; done)); have r1_w_heap_size_1_0 : w1.frozen? ⟨w.heap.size + 1, 0, none⟩ = false := (by rw [hf1 _ _ (by first | omega | simp <;> omega)]; first | (simp [go_sem]; done) | assumption | (simp [go_sem, *]; done)); have k1_w_heap_size_1_1 : w1.cell? ⟨w.heap.size + 1, 1, none⟩ = some (.int .i64 lb) := (by rw [hc1 _ _ (by first | omega | simp <;> omega)]; first | (simp [go_sem]; done) | assumption | (simp [go_sem, *]; done)); have r1_w_heap_size_1_1 : w1.frozen? ⟨w.heap.size + 1, 1, none⟩ = false := (by rw [hf1 _ _ (by first | omega | simp <;> omega)]; first | (simp [go_sem]; done) | assumption | (simp [go_sem, *]; done)); have k1_w_heap_size_1_2 : w1.cell? ⟨w.heap.size + 1, 2, none⟩ = some (.int .i64 hb) := (by rw [hc1 _ _ (by first | omega | simp <;> omega)]; first | (simp [go_sem]; done) | assumption | (simp [go_sem, *]; done)); have r1_w_heap_size_1_2 : w1.frozen? ⟨w.heap.size + 1, 2, none⟩ = false := (by rw [hf1 _ _ (by first | omega | simp <;> omega)]; first | (simp [go_sem]; done) | assumption | (simp [go_sem, *]; done)))
 (have k1_w_heap_size_1_1_0 : w1.cell? ⟨w.heap.size + 1 + 1, 0, none⟩ = some (.int .u8 0) := (by rw [hc1 _ _ (by first | omega | simp <;> omega)]; first | (simp [go_sem]; done) | assumption | (simp [go_sem, *]; done)); have r1_w_heap_size_1_1_0 : w1.frozen? ⟨w.heap.size + 1 + 1, 0, none⟩ = false := (by rw [hf1 _ _ (by first | omega | simp <;> omega)]; first | (simp [go_sem]; done) | assumption | (simp [go_sem, *]; done)); have k1_w_heap_size_1_1_1 : w1.cell? ⟨w.heap.size + 1 + 1, 1, none⟩ = some (.int .i64 0) := (by rw [hc1 _ _ (by first | omega | simp <;> omega)]; first | (simp [go_sem]; done) | assumption | (simp [go_sem, *]; done)); have r1_w_heap_size_1_1_1 : w1.frozen? ⟨w.heap.size + 1 + 1, 1, none⟩ = false := (by rw [hf1 _ _ (by first | omega | simp <;> omega)]; first | (simp [go_sem]; done) | assumption | (simp [go_sem, *]; done)); have k1_w_heap_size_1_1_2 : w1.cell? ⟨w.heap.size + 1 + 1, 2, none⟩ = some (.int .i64 0) := (by rw [hc1 _ _ (by first | omega | simp <;> omega)]; first | (simp [go_sem]; done) | assumption | (simp [go_sem, *]; done)); have r1_w_heap_size_1_1_2 : w1.frozen? ⟨w.heap.size + 1 + 1, 2, none⟩ = false := (by rw [hf1 _ _ (by first | omega | simp <;> omega)]; first | (simp [go_sem]; done) | assumption | (simp [go_sem, *]; done)))
 have ng : ¬ 4 = w1.heap.size := by omega
 clear hc1 hf1 HG
 by_cases e : dl = -9223372036854775808 ∧ dh = 9223372036854775807
 ·have yes := Lib.hid (HD.out.2 e)
  obtain ⟨rfl, rfl⟩ := e
  go_wp2_with fail
  refine bodyPost_ret (v := .tuple #[.agg #[.int .u8 0, .int .i64 0, .int .i64 0], .int .i64 2]) ?_ rfl ⟨by have ye := yes.out; first | rfl | simp [ye], (by repeat' (first | with_reducible (first | exact HW1.out | apply bR | apply bD | apply bN | apply bA | apply bS) | (simp; done) | (simp; omega) | omega))⟩
  simp [results, Tryd.results58, go_sem, *]
 ·have NE := Lib.hid (show ¬ ((⟨dl, dh⟩ : P.B) = ball) from fun h => e (HD.out.1 h))
  clear HD
  by_cases e1 : dl = -9223372036854775808
  ·have e2 : ¬ dh = 9223372036854775807 := fun h => e ⟨e1, h⟩
   subst e1
   have e3 := rbeq_no e2
   clear e e2
   go_wp2_with fail
   refine bodyPost_ret (v := .tuple #[.agg #[.int .u8 (letter ka), .int .i64 (-9223372036854775808), .int .i64 dh], .int .i64 0]) ?_ rfl ⟨by have ne := NE.out; first | rfl | simp [ne], (by repeat' (first | with_reducible (first | exact HW1.out | apply bR | apply bD | apply bN | apply bA | apply bS) | (simp; done) | (simp; omega) | omega))⟩
   simp [results, Tryd.results58, go_sem, *]
  ·have e3 := rbeq_no e1
   clear e e1
   go_wp2_with fail
   refine bodyPost_ret (v := .tuple #[.agg #[.int .u8 (letter ka), .int .i64 dl, .int .i64 dh], .int .i64 0]) ?_ rfl ⟨by have ne := NE.out; first | rfl | simp [ne], (by repeat' (first | with_reducible (first | exact HW1.out | apply bR | apply bD | apply bN | apply bA | apply bS) | (simp; done) | (simp; omega) | omega))⟩
   simp [results, Tryd.results58, go_sem, *]

set_option maxRecDepth 100000 in
set_option maxHeartbeats 4000000 in
theorem RC_swap (la ha kb lb hb : Int) (hp : kb = 2 ∨ kb = 3 ∨ kb = 4) (oa : P.B.Ok ⟨la, ha⟩) (ob : P.B.Ok ⟨lb, hb⟩) (w : World) (hg : AllAt w) :
  Calls Tryd.prog 58 #[.int .i64 2, .agg #[.int .u8 110, .int .i64 la, .int .i64 ha], .agg #[.int .u8 (letter kb), .int .i64 lb, .int .i64 hb]] w fun e w' =>
   e = .returned (.tuple #[.agg #[.int .u8 (if bdoes 2 ⟨lb, hb⟩ ⟨la, ha⟩ = ball then 0 else letter kb), .int .i64 (if bdoes 2 ⟨lb, hb⟩ ⟨la, ha⟩ = ball then 0 else (bdoes 2 ⟨lb, hb⟩ ⟨la, ha⟩).lo), .int .i64 (if bdoes 2 ⟨lb, hb⟩ ⟨la, ha⟩ = ball then 0 else (bdoes 2 ⟨lb, hb⟩ ⟨la, ha⟩).hi)], .int .i64 (if bdoes 2 ⟨lb, hb⟩ ⟨la, ha⟩ = ball then 2 else 0)]) ∧ Below w.heap.size w w' := by
 have gz := hg.lt
 have HW0 := Lib.hid (Below.refl w.heap.size w)
 have HPB := Lib.hid hp
 have ta := rbeq_no (show letter kb ≠ 0 from fun e => by rcases hp with rfl | rfl | rfl <;> simp [letter] at e)
 have tb := rbeq_no (show letter kb ≠ 110 from fun e => by rcases hp with rfl | rfl | rfl <;> simp [letter] at e)
 clear hp
 have C := Lib.hid (fun w (hg : AllAt w) => RefBDoes_any 2 lb hb la ha ob.1 ob.2.1 oa.1 oa.2.1 ob.2.2 oa.2.2 w hg.1 hg.2 hg.lt)
 generalize bdoes 2 ⟨lb, hb⟩ ⟨la, ha⟩ = d at *
 obtain ⟨dl, dh⟩ := d
 have hd : ((⟨dl, dh⟩ : P.B) = ball) ↔ (dl = -9223372036854775808 ∧ dh = 9223372036854775807) := by unfold ball; simp
 have HD := Lib.hid hd
 have HG := Lib.hid hg
 clear oa ob hd hg
 go_enter Tryd.func58, Tryd.ntmps58
 go_wp2_with (first | (go_at_call 80; with_reducible refine (RPlace_yes kb _ _ HPB.out _).mono ?_; rintro e w' ⟨rfl, rfl⟩))
 refine (C.out _ (HG.out.later (by repeat' (first | with_reducible (first | exact HW0.out | apply bR | apply bD | apply bN | apply bA | apply bS) | (simp; done) | (simp; omega) | omega)))).mono ?_
 (rintro e w1 ⟨rfl, hb⟩; obtain ⟨hc1, hf1⟩ := bcell hb; have hz1 := hb.size; (try simp at hz1); have HW1 := Lib.hid (show Below w.heap.size w w1 from Below.trans (by repeat' (first | with_reducible (first | exact HW0.out | apply bR | apply bD | apply bN | apply bA | apply bS) | (simp; done) | (simp; omega) | omega)) (hb.mono (by first | omega | simp <;> omega))); clear hb; (try have z10 : w.heap.size < w1.heap.size := by omega); (try have z11 : w.heap.size + 1 < w1.heap.size := by omega); (try have z12 : w.heap.size + 1 + 1 < w1.heap.size := by omega); (try have z13 : w.heap.size + 1 + 1 + 1 < w1.heap.size := by omega))
 have hga := HG.out.later HW1.out
 have gz1 := hga.lt
 obtain ⟨hg0, hg1⟩ := hga
 (have k1_w_heap_size_0 : w1.cell? ⟨w.heap.size, 0, none⟩ = some (.int .u8 (letter kb)) := (by rw [hc1 _ _ (by first | omega | simp <;> omega)]; first | (simp [go_sem]; done) | assumption | (simp [go_sem, *]; done)); have r1_w_heap_size_0 : w1.frozen? ⟨w.heap.size, 0, none⟩ = false := (by rw [hf1 _ _ (by first | omega | simp <;> omega)]; first | (simp [go_sem]; done) | assumption | (simp [go_sem, *]; done)); have k1_w_heap_size_1 : w1.cell? ⟨w.heap.size, 1, none⟩ = some (.int .i64 lb) := (by rw [hc1 _ _ (by first | omega | simp <;> omega)]; first | (simp [go_sem]; done) | assumption | (simp [go_sem, *]; done)); have r1_w_heap_size_1 : w1.frozen? ⟨w.heap.size, 1, none⟩ = false := (by rw [hf1 _ _ (by first | omega | simp <;> omega)]; first | (simp [go_sem]; done) | assumption | (simp [go_sem, *]; done)); have k1_w_heap_size_2 : w1.cell? ⟨w.heap.size, 2, none⟩ = some (.int .i64 hb) := (by rw [hc1 _ _ (by first | omega | simp <;> omega)]; first | (simp [go_sem]; done) | assumption | (simp [go_sem, *]; done)); have r1_w_heap_size_2 : w1.frozen? ⟨w.heap.size, 2, none⟩ = false := (by rw [hf1 _ _ (by first | omega | simp <;> omega)]; first | (simp [go_sem]; done) | assumption | (simp [go_sem, *]; done)))
 (have k1_w_heap_size_1_0 : w1.cell? ⟨w.heap.size + 1, 0, none⟩ = some (.int .u8 110) := (by rw [hc1 _ _ (by first | omega | simp <;> omega)]; first | (simp [go_sem]; done) | assumption | (simp [go_sem, *]; done)); have r1_w_heap_size_1_0 : w1.frozen? ⟨w.heap.size + 1, 0, none⟩ = false := (by rw [hf1 _ _ (by first | omega | simp <;> omega)]; first | (simp [go_sem]; done) | assumption | (simp [go_sem, *]; done)); have k1_w_heap_size_1_1 : w1.cell? ⟨w.heap.size + 1, 1, none⟩ = some (.int .i64 la) := (by rw [hc1 _ _ (by first | omega | simp <;> omega)]; first | (simp [go_sem]; done) | assumption | (simp [go_sem, *]; done)); have r1_w_heap_size_1_1 : w1.frozen? ⟨w.heap.size + 1, 1, none⟩ = false := (by rw [hf1 _ _ (by first | omega | simp <;> omega)]; first | (simp [go_sem]; done) | assumption | (simp [go_sem, *]; done)); have k1_w_heap_size_1_2 : w1.cell? ⟨w.heap.size + 1, 2, none⟩ = some (.int .i64 ha) := (by rw [hc1 _ _ (by first | omega | simp <;> omega)]; first | (simp [go_sem]; done) | assumption | (simp [go_sem, *]; done)); have r1_w_heap_size_1_2 : w1.frozen? ⟨w.heap.size + 1, 2, none⟩ = false := (by rw [hf1 _ _ (by first | omega | simp <;> omega)]; first | (simp [go_sem]; done) | assumption | (simp [go_sem, *]; done)))
 (have k1_w_heap_size_1_1_0 : w1.cell? ⟨w.heap.size + 1 + 1, 0, none⟩ = some (.int .u8 0) := (by rw [hc1 _ _ (by first | omega | simp <;> omega)]; first | (simp [go_sem]; done) | assumption | (simp [go_sem, *]; done)); have r1_w_heap_size_1_1_0 : w1.frozen? ⟨w.heap.size + 1 + 1, 0, none⟩ = false := (by rw [hf1 _ _ (by first | omega | simp <;> omega)]; first | (simp [go_sem]; done) | assumption | (simp [go_sem, *]; done)); have k1_w_heap_size_1_1_1 : w1.cell? ⟨w.heap.size + 1 + 1, 1, none⟩ = some (.int .i64 0) := (by rw [hc1 _ _ (by first | omega | simp <;> omega)]; first | (simp [go_sem]; done) | assumption | (simp [go_sem, *]; done)); have r1_w_heap_size_1_1_1 : w1.frozen? ⟨w.heap.size + 1 + 1, 1, none⟩ = false := (by rw [hf1 _ _ (by first | omega | simp <;> omega)]; first | (simp [go_sem]; done) | assumption | (simp [go_sem, *]; done)); have k1_w_heap_size_1_1_2 : w1.cell? ⟨w.heap.size + 1 + 1, 2, none⟩ = some (.int .i64 0) := (by rw [hc1 _ _ (by first | omega | simp <;> omega)]; first | (simp [go_sem]; done) | assumption | (simp [go_sem, *]; done)); have r1_w_heap_size_1_1_2 : w1.frozen? ⟨w.heap.size + 1 + 1, 2, none⟩ = false := (by rw [hf1 _ _ (by first | omega | simp <;> omega)]; first | (simp [go_sem]; done) | assumption | (simp [go_sem, *]; done)))
 have ng : ¬ 4 = w1.heap.size := by omega
 clear hc1 hf1 HG
 by_cases e : dl = -9223372036854775808 ∧ dh = 9223372036854775807
 ·have yes := Lib.hid (HD.out.2 e)
  obtain ⟨rfl, rfl⟩ := e
  go_wp2_with fail
  refine bodyPost_ret (v := .tuple #[.agg #[.int .u8 0, .int .i64 0, .int .i64 0], .int .i64 2]) ?_ rfl ⟨by have ye := yes.out; first | rfl | simp [ye], (by repeat' (first | with_reducible (first | exact HW1.out | apply bR | apply bD | apply bN | apply bA | apply bS) | (simp; done) | (simp; omega) | omega))⟩
  simp [results, Tryd.results58, go_sem, *]
 ·have NE := Lib.hid (show ¬ ((⟨dl, dh⟩ : P.B) = ball) from fun h => e (HD.out.1 h))
  clear HD
  by_cases e1 : dl = -9223372036854775808
  ·have e2 : ¬ dh = 9223372036854775807 := fun h => e ⟨e1, h⟩
   subst e1
   have e3 := rbeq_no e2
   clear e e2
   go_wp2_with fail
   refine bodyPost_ret (v := .tuple #[.agg #[.int .u8 (letter kb), .int .i64 (-9223372036854775808), .int .i64 dh], .int .i64 0]) ?_ rfl ⟨by have ne := NE.out; first | rfl | simp [ne], (by repeat' (first | with_reducible (first | exact HW1.out | apply bR | apply bD | apply bN | apply bA | apply bS) | (simp; done) | (simp; omega) | omega))⟩
   simp [results, Tryd.results58, go_sem, *]
  ·have e3 := rbeq_no e1
   clear e e1
   go_wp2_with fail
   refine bodyPost_ret (v := .tuple #[.agg #[.int .u8 (letter kb), .int .i64 dl, .int .i64 dh], .int .i64 0]) ?_ rfl ⟨by have ne := NE.out; first | rfl | simp [ne], (by repeat' (first | with_reducible (first | exact HW1.out | apply bR | apply bD | apply bN | apply bA | apply bS) | (simp; done) | (simp; omega) | omega))⟩
   simp [results, Tryd.results58, go_sem, *]

theorem RCombine_any (c : Int) (a b : Wh) (ha : WOk a) (hb : WOk b) (w : World) (hg : AllAt w) :
  Calls Tryd.prog 58 #[.int .i64 c, .agg #[.int .u8 (letter a.kind), .int .i64 a.b.lo, .int .i64 a.b.hi], .agg #[.int .u8 (letter b.kind), .int .i64 b.b.lo, .int .i64 b.b.hi]] w fun e w' =>
   e = .returned (.tuple #[.agg #[.int .u8 (letter (wcounts c a b).1.kind), .int .i64 (wcounts c a b).1.b.lo, .int .i64 (wcounts c a b).1.b.hi], .int .i64 (wcounts c a b).2]) ∧ Below w.heap.size w w' := by
 obtain ⟨ka, ⟨la, ga⟩⟩ := a
 obtain ⟨kb, ⟨lb, gb⟩⟩ := b
 obtain ⟨ka', oa⟩ := ha
 obtain ⟨kb', ob⟩ := hb
 simp only at ka' kb' oa ob
 have oka : KOk ka := ka'
 have okb : KOk kb := kb'
 unfold wcounts
 simp only
 by_cases h1 : kb = 0 ∨ (ka = 0 ∧ c ≠ 1)
 ·rw [if_pos h1]; exact RC_none c ka la ga kb lb gb oka okb h1 w
 rw [if_neg h1]
 by_cases h2 : c = 1
 ·subst h2; rw [if_pos rfl]; exact RC_mov ka la ga kb lb gb oka okb (by omega) w
 rw [if_neg h2]
 by_cases h3 : ka = 1 ∧ kb = 1
 ·rw [if_pos h3]; obtain ⟨rfl, rfl⟩ := h3; exact RC_num c la ga lb gb h2 oa ob w hg
 rw [if_neg h3]
 have a0 : ka ≠ 0 := by omega
 have b0 : kb ≠ 0 := by omega
 by_cases h4 : c = 2 ∧ ka = 1
 ·rw [if_pos h4]
  obtain ⟨rfl, rfl⟩ := h4
  unfold wshift
  simp only
  by_cases h5 : kb = 5
  ·rw [if_pos (by omega)]; exact RC_arg2 1 la ga kb lb gb oka okb a0 b0 (.inl rfl) (.inr h5) h3 w
  ·rw [if_neg (by omega)]
   refine (RC_swap la ga kb lb gb (by omega) oa ob w hg).mono fun e w' he => ⟨he.1.trans ?_, he.2⟩
   split <;> rfl
 ·rw [if_neg h4]
  unfold wshift
  simp only
  by_cases h5 : kb ≠ 1 ∨ ka = 5 ∨ (c ≠ 2 ∧ c ≠ 3)
  ·rw [if_pos h5]
   by_cases hc : c = 2
   ·subst hc
    by_cases hp : kb = 2 ∨ kb = 3 ∨ kb = 4
    ·exact RC_arg1 ka la ga kb lb gb oka okb a0 b0 (by omega) hp w
    ·by_cases hq : ka = 1 ∨ ka = 5
     ·exact RC_arg2 ka la ga kb lb gb oka okb a0 b0 hq (by omega) h3 w
     ·exact RC_arg5 ka la ga kb lb gb oka okb a0 b0 (by omega) (by omega) w
   ·by_cases hq : ka = 1 ∨ ka = 5
    ·exact RC_arg3 c ka la ga kb lb gb oka okb a0 b0 h2 hc hq h3 w
    ·by_cases hk : kb = 1
     ·exact RC_arg6 c ka la ga kb lb gb oka okb a0 b0 h2 hc (by omega) (by omega) hk w
     ·exact RC_arg4 c ka la ga kb lb gb oka okb a0 b0 h2 hc (by omega) hk w
  ·rw [if_neg h5]
   obtain rfl : kb = 1 := by omega
   have c23 : c = 2 ∨ c = 3 := by omega
   rcases c23 with rfl | rfl
   ·refine (RC_shift2 ka la ga lb gb (by omega) oa ob w hg).mono fun e w' he => ⟨he.1.trans ?_, he.2⟩
    split <;> rfl
   ·refine (RC_shift3 ka la ga lb gb (by omega) oa ob w hg).mono fun e w' he => ⟨he.1.trans ?_, he.2⟩
    split <;> rfl
end Go.Proofs.YtfpoicdfkjbknaaDoor.W
