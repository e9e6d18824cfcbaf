/- The walk of the reference's combine: what a step makes of two. Conditions: the bounds have their ends in order; the variable all holds the least and the greatest number. -/
import Derived.Test.YtfpoicdfkjbknaaDoorW1
namespace Go.Proofs.YtfpoicdfkjbknaaDoor.W
open Go.RowKit Go.Proofs.YtfpoicdfkjbknaaDoor.P
set_option linter.unusedSimpArgs false
set_option linter.unusedVariables false

theorem rbeq_no {a b : Int} (h : a ≠ b) : (a == b) = false := by rw [beq_eq_false_iff_ne]; exact h
theorem rbeq_yes {a b : Int} (h : a = b) : (a == b) = true := by rw [beq_iff_eq]; exact h
theorem rbne_yes {a b : Int} (h : a ≠ b) : (a != b) = true := by rw [bne_iff_ne]; exact h
/-- a kind -/
def KOk (k : Int) : Prop := k = 0 ∨ k = 1 ∨ k = 2 ∨ k = 3 ∨ k = 4 ∨ k = 5
theorem letter_0 {k : Int} (h : KOk k) : letter k = 0 ↔ k = 0 := by rcases h with rfl | rfl | rfl | rfl | rfl | rfl <;> simp [letter]
theorem letter_1 {k : Int} (h : KOk k) : letter k = 110 ↔ k = 1 := by rcases h with rfl | rfl | rfl | rfl | rfl | rfl <;> simp [letter]
theorem letter_2 {k : Int} (h : KOk k) : letter k = 116 ↔ k = 2 := by rcases h with rfl | rfl | rfl | rfl | rfl | rfl <;> simp [letter]
theorem letter_3 {k : Int} (h : KOk k) : letter k = 102 ↔ k = 3 := by rcases h with rfl | rfl | rfl | rfl | rfl | rfl <;> simp [letter]
theorem letter_4 {k : Int} (h : KOk k) : letter k = 99 ↔ k = 4 := by rcases h with rfl | rfl | rfl | rfl | rfl | rfl <;> simp [letter]
theorem letter_5 {k : Int} (h : KOk k) : letter k = 109 ↔ k = 5 := by rcases h with rfl | rfl | rfl | rfl | rfl | rfl <;> simp [letter]

set_option maxRecDepth 100000 in
set_option maxHeartbeats 1000000 in
theorem RPlace_yes (k lo hi : Int) (hk : k = 2 ∨ k = 3 ∨ k = 4) (w : World) :
  Calls Tryd.prog 80 #[.agg #[.int .u8 (letter k), .int .i64 lo, .int .i64 hi]] w fun e w' => e = .returned (.bool true) ∧ w.alloc (.cells #[.int .u8 (letter k), .int .i64 lo, .int .i64 hi] 100) = w' := by
 have HW0 := Lib.hid (Below.refl w.heap.size w)
 rcases hk with rfl | rfl | rfl
 all_goals
  simp only [letter, show ¬ (2 : Int) = 0 by decide, show ¬ (2 : Int) = 1 by decide, show ¬ (3 : Int) = 0 by decide, show ¬ (3 : Int) = 1 by decide, show ¬ (3 : Int) = 2 by decide, show ¬ (4 : Int) = 0 by decide, show ¬ (4 : Int) = 1 by decide, show ¬ (4 : Int) = 2 by decide, show ¬ (4 : Int) = 3 by decide, if_true, if_false]
  go_enter Tryd.func80, Tryd.ntmps80
  go_wp2_with fail
  go_ret
  exact ⟨rfl, rfl⟩
set_option maxRecDepth 100000 in
set_option maxHeartbeats 1000000 in
theorem RPlace_no (k lo hi : Int) (hk : k = 0 ∨ k = 1 ∨ k = 5) (w : World) :
  Calls Tryd.prog 80 #[.agg #[.int .u8 (letter k), .int .i64 lo, .int .i64 hi]] w fun e w' => e = .returned (.bool false) ∧ w.alloc (.cells #[.int .u8 (letter k), .int .i64 lo, .int .i64 hi] 100) = w' := by
 have HW0 := Lib.hid (Below.refl w.heap.size w)
 rcases hk with rfl | rfl | rfl
 all_goals
  simp only [letter, show ¬ (5 : Int) = 0 by decide, show ¬ (5 : Int) = 1 by decide, show ¬ (5 : Int) = 2 by decide, show ¬ (5 : Int) = 3 by decide, show ¬ (5 : Int) = 4 by decide, show ¬ (1 : Int) = 0 by decide, if_true, if_false]
  go_enter Tryd.func80, Tryd.ntmps80
  go_wp2_with fail
  go_ret
  exact ⟨rfl, rfl⟩

set_option maxRecDepth 100000 in
set_option maxHeartbeats 1000000 in
theorem RC_none (c ka la ha kb lb hb : Int) (oka : KOk ka) (okb : KOk kb) (h : kb = 0 ∨ (ka = 0 ∧ c ≠ 1)) (w : World) :
  Calls Tryd.prog 58 #[.int .i64 c, .agg #[.int .u8 (letter ka), .int .i64 la, .int .i64 ha], .agg #[.int .u8 (letter kb), .int .i64 lb, .int .i64 hb]] w fun e w' =>
   e = .returned (.tuple #[.agg #[.int .u8 0, .int .i64 0, .int .i64 0], .int .i64 8]) ∧ Below w.heap.size w w' := by
 have HW0 := Lib.hid (Below.refl w.heap.size w)
 have a0 := letter_0 oka; have b0 := letter_0 okb
 generalize letter ka = pa at *
 generalize letter kb = pb at *
 by_cases e : pb = 0
 ·have t1 := rbeq_yes e
  clear h a0 b0 e
  go_enter Tryd.func58, Tryd.ntmps58
  go_wp2_with fail
  refine bodyPost_ret ?_ rfl ⟨rfl, (by repeat' (first | with_reducible (first | exact HW0.out | apply bR | apply bD | apply bN | apply bA | apply bS) | (simp; done) | (simp; omega) | omega))⟩
  simp [results, Tryd.results58, go_sem]
 ·have t1 := rbeq_no e
  have t2 : (pa == 0) = true := rbeq_yes (by rw [a0]; rcases h with h | h; exact absurd (b0.2 h) e; exact h.1)
  have t3 : (c != 1) = true := rbne_yes (by rcases h with h | h; exact absurd (b0.2 h) e; exact h.2)
  clear h a0 b0 e
  go_enter Tryd.func58, Tryd.ntmps58
  go_wp2_with fail
  refine bodyPost_ret ?_ rfl ⟨rfl, (by repeat' (first | with_reducible (first | exact HW0.out | apply bR | apply bD | apply bN | apply bA | apply bS) | (simp; done) | (simp; omega) | omega))⟩
  simp [results, Tryd.results58, go_sem]

set_option maxRecDepth 100000 in
set_option maxHeartbeats 1000000 in
theorem RC_mov (ka la ha kb lb hb : Int) (oka : KOk ka) (okb : KOk kb) (h : kb ≠ 0) (w : World) :
  Calls Tryd.prog 58 #[.int .i64 1, .agg #[.int .u8 (letter ka), .int .i64 la, .int .i64 ha], .agg #[.int .u8 (letter kb), .int .i64 lb, .int .i64 hb]] w fun e w' =>
   e = .returned (.tuple #[.agg #[.int .u8 (letter kb), .int .i64 lb, .int .i64 hb], .int .i64 0]) ∧ Below w.heap.size w w' := by
 have HW0 := Lib.hid (Below.refl w.heap.size w)
 have t1 := rbeq_no (show letter kb ≠ 0 from fun e => h ((letter_0 okb).1 e))
 generalize letter ka = pa at *
 generalize letter kb = pb at *
 by_cases e : pa = 0
 ·have t2 := rbeq_yes e
  clear h e
  go_enter Tryd.func58, Tryd.ntmps58
  go_wp2_with fail
  refine bodyPost_ret ?_ rfl ⟨rfl, (by repeat' (first | with_reducible (first | exact HW0.out | apply bR | apply bD | apply bN | apply bA | apply bS) | (simp; done) | (simp; omega) | omega))⟩
  simp [results, Tryd.results58, go_sem]
 ·have t2 := rbeq_no e
  clear h e
  go_enter Tryd.func58, Tryd.ntmps58
  go_wp2_with fail
  refine bodyPost_ret ?_ rfl ⟨rfl, (by repeat' (first | with_reducible (first | exact HW0.out | apply bR | apply bD | apply bN | apply bA | apply bS) | (simp; done) | (simp; omega) | omega))⟩
  simp [results, Tryd.results58, go_sem]

set_option maxRecDepth 100000 in
set_option maxHeartbeats 2000000 in
theorem RC_num (c la ha lb hb : Int) (c1 : c ≠ 1) (oa : P.B.Ok ⟨la, ha⟩) (ob : P.B.Ok ⟨lb, hb⟩) (w : World) (hg : AllAt w) :
  Calls Tryd.prog 58 #[.int .i64 c, .agg #[.int .u8 110, .int .i64 la, .int .i64 ha], .agg #[.int .u8 110, .int .i64 lb, .int .i64 hb]] w fun e w' =>
   e = .returned (.tuple #[.agg #[.int .u8 110, .int .i64 (bdoes c ⟨la, ha⟩ ⟨lb, hb⟩).lo, .int .i64 (bdoes c ⟨la, ha⟩ ⟨lb, hb⟩).hi], .int .i64 0]) ∧ Below w.heap.size w w' := by
 have gz := hg.lt
 have HW0 := Lib.hid (Below.refl w.heap.size w)
 have t1 := rbeq_no c1
 have t2 := rbne_yes c1
 have C := Lib.hid (fun w (hg : AllAt w) => RefBDoes_any c la ha lb hb oa.1 oa.2.1 ob.1 ob.2.1 oa.2.2 ob.2.2 w hg.1 hg.2 hg.lt)
 generalize bdoes c ⟨la, ha⟩ ⟨lb, hb⟩ = d at *
 obtain ⟨dl, dh⟩ := d
 have HG := Lib.hid hg
 clear c1 oa ob hg
 go_enter Tryd.func58, Tryd.ntmps58
 go_wp2_with fail
 refine (C.out _ (HG.out.later (by repeat' (first | with_reducible (first | exact HW0.out | apply bR | apply bD | apply bN | apply bA | apply bS) | (simp; done) | (simp; omega) | omega)))).mono ?_
 (rintro e w1 ⟨rfl, hb⟩; obtain ⟨hc1, hf1⟩ := bcell hb; have hz1 := hb.size; (try simp at hz1); have HW1 := Lib.hid (show Below w.heap.size w w1 from Below.trans (by repeat' (first | with_reducible (first | exact HW0.out | apply bR | apply bD | apply bN | apply bA | apply bS) | (simp; done) | (simp; omega) | omega)) (hb.mono (by first | omega | simp <;> omega))); clear hb; (try have z10 : w.heap.size < w1.heap.size := by omega); (try have z11 : w.heap.size + 1 < w1.heap.size := by omega); (try have z12 : w.heap.size + 1 + 1 < w1.heap.size := by omega); (try have z13 : w.heap.size + 1 + 1 + 1 < w1.heap.size := by omega))
 (have k1_w_heap_size_1_1_0 : w1.cell? ⟨w.heap.size + 1 + 1, 0, none⟩ = some (.int .u8 0) := (by rw [hc1 _ _ (by first | omega | simp <;> omega)]; first | (simp [go_sem]; done) | assumption | (simp [go_sem, *]; done)); have r1_w_heap_size_1_1_0 : w1.frozen? ⟨w.heap.size + 1 + 1, 0, none⟩ = false := (by rw [hf1 _ _ (by first | omega | simp <;> omega)]; first | (simp [go_sem]; done) | assumption | (simp [go_sem, *]; done)); have k1_w_heap_size_1_1_1 : w1.cell? ⟨w.heap.size + 1 + 1, 1, none⟩ = some (.int .i64 0) := (by rw [hc1 _ _ (by first | omega | simp <;> omega)]; first | (simp [go_sem]; done) | assumption | (simp [go_sem, *]; done)); have r1_w_heap_size_1_1_1 : w1.frozen? ⟨w.heap.size + 1 + 1, 1, none⟩ = false := (by rw [hf1 _ _ (by first | omega | simp <;> omega)]; first | (simp [go_sem]; done) | assumption | (simp [go_sem, *]; done)); have k1_w_heap_size_1_1_2 : w1.cell? ⟨w.heap.size + 1 + 1, 2, none⟩ = some (.int .i64 0) := (by rw [hc1 _ _ (by first | omega | simp <;> omega)]; first | (simp [go_sem]; done) | assumption | (simp [go_sem, *]; done)); have r1_w_heap_size_1_1_2 : w1.frozen? ⟨w.heap.size + 1 + 1, 2, none⟩ = false := (by rw [hf1 _ _ (by first | omega | simp <;> omega)]; first | (simp [go_sem]; done) | assumption | (simp [go_sem, *]; done)))
 clear hc1 hf1
 go_wp2_with fail
 refine bodyPost_ret ?_ rfl ⟨rfl, (by repeat' (first | with_reducible (first | exact HW1.out | apply bR | apply bD | apply bN | apply bA | apply bS) | (simp; done) | (simp; omega) | omega))⟩
 simp [results, Tryd.results58, go_sem, *]

set_option maxRecDepth 100000 in
set_option maxHeartbeats 2000000 in
theorem RC_arg1 (ka la ha kb lb hb : Int) (oka : KOk ka) (okb : KOk kb) (ha0 : ka ≠ 0) (hb0 : kb ≠ 0) (h1 : ka ≠ 1) (hp : kb = 2 ∨ kb = 3 ∨ kb = 4) (w : World) :
  Calls Tryd.prog 58 #[.int .i64 2, .agg #[.int .u8 (letter ka), .int .i64 la, .int .i64 ha], .agg #[.int .u8 (letter kb), .int .i64 lb, .int .i64 hb]] w fun e w' =>
   e = .returned (.tuple #[.agg #[.int .u8 0, .int .i64 0, .int .i64 0], .int .i64 1]) ∧ Below w.heap.size w w' := by
 have HW0 := Lib.hid (Below.refl w.heap.size w)
 have ta := rbeq_no (show letter ka ≠ 0 from fun e => ha0 ((letter_0 oka).1 e))
 have tb := rbeq_no (show letter kb ≠ 0 from fun e => hb0 ((letter_0 okb).1 e))
 have t1 := rbeq_no (show letter ka ≠ 110 from fun e => h1 ((letter_1 oka).1 e))
 have t2 := rbne_yes (show letter ka ≠ 110 from fun e => h1 ((letter_1 oka).1 e))
 have HPB := Lib.hid hp
 clear ha0 hb0 h1 hp
 go_enter Tryd.func58, Tryd.ntmps58
 go_wp2_with (first | (go_at_call 80; with_reducible refine (RPlace_yes kb _ _ HPB.out _).mono ?_; rintro e w' ⟨rfl, rfl⟩))
 refine bodyPost_ret (v := .tuple #[.agg #[.int .u8 0, .int .i64 0, .int .i64 0], .int .i64 1]) ?_ rfl ⟨rfl, (by repeat' (first | with_reducible (first | exact HW0.out | apply bR | apply bD | apply bN | apply bA | apply bS) | (simp; done) | (simp; omega) | omega))⟩
 simp [results, Tryd.results58, go_sem, *]

set_option maxRecDepth 100000 in
set_option maxHeartbeats 2000000 in
theorem RC_arg2 (ka la ha kb lb hb : Int) (oka : KOk ka) (okb : KOk kb) (ha0 : ka ≠ 0) (hb0 : kb ≠ 0) (hp : ka = 1 ∨ ka = 5) (hq : kb = 1 ∨ kb = 5) (hn : ¬ (ka = 1 ∧ kb = 1)) (w : World) :
  Calls Tryd.prog 58 #[.int .i64 2, .agg #[.int .u8 (letter ka), .int .i64 la, .int .i64 ha], .agg #[.int .u8 (letter kb), .int .i64 lb, .int .i64 hb]] w fun e w' =>
   e = .returned (.tuple #[.agg #[.int .u8 0, .int .i64 0, .int .i64 0], .int .i64 1]) ∧ Below w.heap.size w w' := by
 have HW0 := Lib.hid (Below.refl w.heap.size w)
 have ta := rbeq_no (show letter ka ≠ 0 from fun e => ha0 ((letter_0 oka).1 e))
 have tb := rbeq_no (show letter kb ≠ 0 from fun e => hb0 ((letter_0 okb).1 e))
 have HPA := Lib.hid (show ka = 0 ∨ ka = 1 ∨ ka = 5 by omega)
 have HPB := Lib.hid (show kb = 0 ∨ kb = 1 ∨ kb = 5 by omega)
 have ht : (letter ka == 110) = false ∨ ((letter ka == 110) = true ∧ (letter kb == 110) = false) := by
  by_cases e : ka = 1
  ·exact .inr ⟨rbeq_yes ((letter_1 oka).2 e), rbeq_no (fun h => hn ⟨e, (letter_1 okb).1 h⟩)⟩
  ·exact .inl (rbeq_no (fun h => e ((letter_1 oka).1 h)))
 clear ha0 hb0 hp hq hn
 rcases ht with t9 | ⟨t9, t10⟩
 all_goals
  go_enter Tryd.func58, Tryd.ntmps58
  go_wp2_with (first | (go_at_call 80; with_reducible refine (RPlace_no kb _ _ HPB.out _).mono ?_; rintro e w' ⟨rfl, rfl⟩) | (go_at_call 80; with_reducible refine (RPlace_no ka _ _ HPA.out _).mono ?_; rintro e w' ⟨rfl, rfl⟩))
  refine bodyPost_ret (v := .tuple #[.agg #[.int .u8 0, .int .i64 0, .int .i64 0], .int .i64 1]) ?_ rfl ⟨rfl, (by repeat' (first | with_reducible (first | exact HW0.out | apply bR | apply bD | apply bN | apply bA | apply bS) | (simp; done) | (simp; omega) | omega))⟩
  simp [results, Tryd.results58, go_sem, *]

set_option maxRecDepth 100000 in
set_option maxHeartbeats 2000000 in
theorem RC_arg3 (c : Int) (ka la ha kb lb hb : Int) (oka : KOk ka) (okb : KOk kb) (ha0 : ka ≠ 0) (hb0 : kb ≠ 0) (c1 : c ≠ 1) (c2 : c ≠ 2) (hp : ka = 1 ∨ ka = 5) (hn : ¬ (ka = 1 ∧ kb = 1)) (w : World) :
  Calls Tryd.prog 58 #[.int .i64 c, .agg #[.int .u8 (letter ka), .int .i64 la, .int .i64 ha], .agg #[.int .u8 (letter kb), .int .i64 lb, .int .i64 hb]] w fun e w' =>
   e = .returned (.tuple #[.agg #[.int .u8 0, .int .i64 0, .int .i64 0], .int .i64 1]) ∧ Below w.heap.size w w' := by
 have HW0 := Lib.hid (Below.refl w.heap.size w)
 have ta := rbeq_no (show letter ka ≠ 0 from fun e => ha0 ((letter_0 oka).1 e))
 have tb := rbeq_no (show letter kb ≠ 0 from fun e => hb0 ((letter_0 okb).1 e))
 have HPA := Lib.hid (show ka = 0 ∨ ka = 1 ∨ ka = 5 by omega)
 have t2 := rbeq_no c1; have t3 := rbne_yes c1; have t4 := rbeq_no c2
 have ht : (letter ka == 110) = false ∨ ((letter ka == 110) = true ∧ (letter kb == 110) = false) := by
  by_cases e : ka = 1
  ·exact .inr ⟨rbeq_yes ((letter_1 oka).2 e), rbeq_no (fun h => hn ⟨e, (letter_1 okb).1 h⟩)⟩
  ·exact .inl (rbeq_no (fun h => e ((letter_1 oka).1 h)))
 clear ha0 hb0 hp hn c1 c2
 rcases ht with t9 | ⟨t9, t10⟩
 all_goals
  go_enter Tryd.func58, Tryd.ntmps58
  go_wp2_with (first | (go_at_call 80; with_reducible refine (RPlace_no ka _ _ HPA.out _).mono ?_; rintro e w' ⟨rfl, rfl⟩))
  refine bodyPost_ret (v := .tuple #[.agg #[.int .u8 0, .int .i64 0, .int .i64 0], .int .i64 1]) ?_ rfl ⟨rfl, (by repeat' (first | with_reducible (first | exact HW0.out | apply bR | apply bD | apply bN | apply bA | apply bS) | (simp; done) | (simp; omega) | omega))⟩
  simp [results, Tryd.results58, go_sem, *]

set_option maxRecDepth 100000 in
set_option maxHeartbeats 2000000 in
theorem RC_arg4 (c : Int) (ka la ha kb lb hb : Int) (oka : KOk ka) (okb : KOk kb) (ha0 : ka ≠ 0) (hb0 : kb ≠ 0) (c1 : c ≠ 1) (c2 : c ≠ 2) (hp : ka = 2 ∨ ka = 3 ∨ ka = 4) (hq : kb ≠ 1) (w : World) :
  Calls Tryd.prog 58 #[.int .i64 c, .agg #[.int .u8 (letter ka), .int .i64 la, .int .i64 ha], .agg #[.int .u8 (letter kb), .int .i64 lb, .int .i64 hb]] w fun e w' =>
   e = .returned (.tuple #[.agg #[.int .u8 0, .int .i64 0, .int .i64 0], .int .i64 1]) ∧ Below w.heap.size w w' := by
 have HW0 := Lib.hid (Below.refl w.heap.size w)
 have ta := rbeq_no (show letter ka ≠ 0 from fun e => ha0 ((letter_0 oka).1 e))
 have tb := rbeq_no (show letter kb ≠ 0 from fun e => hb0 ((letter_0 okb).1 e))
 have HPA := Lib.hid hp
 have t2 := rbeq_no c1; have t3 := rbne_yes c1; have t4 := rbeq_no c2
 have t5 := rbeq_no (show letter ka ≠ 110 from fun e => by have := (letter_1 oka).1 e; omega)
 have t6 := rbne_yes (show letter kb ≠ 110 from fun e => hq ((letter_1 okb).1 e))
 clear ha0 hb0 hp hq c1 c2
 go_enter Tryd.func58, Tryd.ntmps58
 go_wp2_with (first | (go_at_call 80; with_reducible refine (RPlace_yes ka _ _ HPA.out _).mono ?_; rintro e w' ⟨rfl, rfl⟩))
 refine bodyPost_ret (v := .tuple #[.agg #[.int .u8 0, .int .i64 0, .int .i64 0], .int .i64 1]) ?_ rfl ⟨rfl, (by repeat' (first | with_reducible (first | exact HW0.out | apply bR | apply bD | apply bN | apply bA | apply bS) | (simp; done) | (simp; omega) | omega))⟩
 simp [results, Tryd.results58, go_sem, *]

set_option maxRecDepth 100000 in
set_option maxHeartbeats 2000000 in
theorem RC_arg5 (ka la ha kb lb hb : Int) (oka : KOk ka) (okb : KOk kb) (ha0 : ka ≠ 0) (hb0 : kb ≠ 0) (hp : ka = 2 ∨ ka = 3 ∨ ka = 4) (hq : kb = 5) (w : World) :
  Calls Tryd.prog 58 #[.int .i64 2, .agg #[.int .u8 (letter ka), .int .i64 la, .int .i64 ha], .agg #[.int .u8 (letter kb), .int .i64 lb, .int .i64 hb]] w fun e w' =>
   e = .returned (.tuple #[.agg #[.int .u8 0, .int .i64 0, .int .i64 0], .int .i64 1]) ∧ Below w.heap.size w w' := by
 have HW0 := Lib.hid (Below.refl w.heap.size w)
 have ta := rbeq_no (show letter ka ≠ 0 from fun e => ha0 ((letter_0 oka).1 e))
 have tb := rbeq_no (show letter kb ≠ 0 from fun e => hb0 ((letter_0 okb).1 e))
 have HPA := Lib.hid hp
 have HPB := Lib.hid (show kb = 0 ∨ kb = 1 ∨ kb = 5 by omega)
 have t5 := rbeq_no (show letter ka ≠ 110 from fun e => by have := (letter_1 oka).1 e; omega)
 have t6 := rbne_yes (show letter kb ≠ 110 from fun e => by have := (letter_1 okb).1 e; omega)
 clear ha0 hb0 hp hq
 go_enter Tryd.func58, Tryd.ntmps58
 go_wp2_with (first | (go_at_call 80; with_reducible refine (RPlace_no kb _ _ HPB.out _).mono ?_; rintro e w' ⟨rfl, rfl⟩) | (go_at_call 80; with_reducible refine (RPlace_yes ka _ _ HPA.out _).mono ?_; rintro e w' ⟨rfl, rfl⟩))
 refine bodyPost_ret (v := .tuple #[.agg #[.int .u8 0, .int .i64 0, .int .i64 0], .int .i64 1]) ?_ rfl ⟨rfl, (by repeat' (first | with_reducible (first | exact HW0.out | apply bR | apply bD | apply bN | apply bA | apply bS) | (simp; done) | (simp; omega) | omega))⟩
 simp [results, Tryd.results58, go_sem, *]

set_option maxRecDepth 100000 in
set_option maxHeartbeats 2000000 in
theorem RC_arg6 (c : Int) (ka la ha kb lb hb : Int) (oka : KOk ka) (okb : KOk kb) (ha0 : ka ≠ 0) (hb0 : kb ≠ 0) (c1 : c ≠ 1) (c2 : c ≠ 2) (c3 : c ≠ 3) (hp : ka = 2 ∨ ka = 3 ∨ ka = 4) (hq : kb = 1) (w : World) :
  Calls Tryd.prog 58 #[.int .i64 c, .agg #[.int .u8 (letter ka), .int .i64 la, .int .i64 ha], .agg #[.int .u8 (letter kb), .int .i64 lb, .int .i64 hb]] w fun e w' =>
   e = .returned (.tuple #[.agg #[.int .u8 0, .int .i64 0, .int .i64 0], .int .i64 1]) ∧ Below w.heap.size w w' := by
 have HW0 := Lib.hid (Below.refl w.heap.size w)
 have ta := rbeq_no (show letter ka ≠ 0 from fun e => ha0 ((letter_0 oka).1 e))
 have tb := rbeq_no (show letter kb ≠ 0 from fun e => hb0 ((letter_0 okb).1 e))
 have HPA := Lib.hid hp
 have t2 := rbeq_no c1; have t3 := rbne_yes c1; have t4 := rbeq_no c2; have t7 := rbne_yes c2; have t8 := rbne_yes c3
 have t5 := rbeq_no (show letter ka ≠ 110 from fun e => by have := (letter_1 oka).1 e; omega)
 have t6 : (letter kb != 110) = false := by rw [(letter_1 okb).2 hq]; rfl
 clear ha0 hb0 hp hq c1 c2 c3
 go_enter Tryd.func58, Tryd.ntmps58
 go_wp2_with (first | (go_at_call 80; with_reducible refine (RPlace_yes ka _ _ HPA.out _).mono ?_; rintro e w' ⟨rfl, rfl⟩))
 refine bodyPost_ret (v := .tuple #[.agg #[.int .u8 0, .int .i64 0, .int .i64 0], .int .i64 1]) ?_ rfl ⟨rfl, (by repeat' (first | with_reducible (first | exact HW0.out | apply bR | apply bD | apply bN | apply bA | apply bS) | (simp; done) | (simp; omega) | omega))⟩
 simp [results, Tryd.results58, go_sem, *]
end Go.Proofs.YtfpoicdfkjbknaaDoor.W
