/- VerifyGoes: for every input the law returns true, and the argument reads as it did; the variables errors.errorType and gatehouseref.all are tied to the program's text (the card). No further conditions. -/
import Derived.Test.YtfpoicdfkjbknaaDoorV1
import Derived.Test.YtfpoicdfkjbknaaDoorV7
import Derived.Test.YtfpoicdfkjbknaaDoorPureVerWalk
import Derived.Test.YtfpoicdfkjbknaaDoorW8
import Derived.Deep.CutBlock
import Derived.Deep.DeepCutAuto
import Derived.Deep.LoopGhost
import Derived.Deep.Light
import Derived.Test.YtfpoicdfkjbknaaDoorWalkCheck
import Derived.Below
import Derived.ChangeSame
import Derived.Test.YtfpoicdfkjbknaaDoorRows
import Derived.Test.YtfpoicdfkjbknaaDoorCards
import Derived.Test.YtfpoicdfkjbknaaDoorTie
import Derived.WalkKit
import Derived.ProofKit
import Derived.OpenShut
import Derived.LaidMore
import Derived.LaidHandle
import Derived.Lib.LaidU8
import Derived.Carry
import Derived.Deep.Slices
import Derived.Deep.Fields
import Derived.Stop.Joined
import Derived.Lib.SmallJoins
import Derived.SevenTiedAt
/-! part: V2 -/
namespace Go.Proofs.YtfpoicdfkjbknaaDoor.W
open Go.RowKit Go.Proofs.YtfpoicdfkjbknaaDoor.P
set_option linter.unusedSimpArgs false
set_option linter.unusedVariables false

theorem beq_no {a b : Int} (h : a ≠ b) : (a == b) = false := by rw [beq_eq_false_iff_ne]; exact h
theorem bne_yes {a b : Int} (h : a ≠ b) : (a != b) = true := by rw [bne_iff_ne]; exact h

set_option maxRecDepth 100000 in
set_option maxHeartbeats 1000000 in
/-- there is nothing -/
theorem VC_none (c ka la ha kb lb hb : Int) (h : kb = 0 ∨ (ka = 0 ∧ c ≠ 1)) (w : World) :
  Calls Tryd.prog 66 #[.int .i64 c, .agg #[.int .i64 ka, .int .i64 la, .int .i64 ha], .agg #[.int .i64 kb, .int .i64 lb, .int .i64 hb]] w fun e w' =>
   e = .returned (.tuple #[.agg #[.int .i64 0, .int .i64 0, .int .i64 0], .int .i64 8]) ∧ Below w.heap.size w w' := by
 have HW0 := Lib.hid (Below.refl w.heap.size w)
 by_cases b0 : kb = 0
 ·subst b0
  clear h
  go_enter Tryd.func66, Tryd.ntmps66
  go_wp2_with fail
  refine bodyPost_ret ?_ rfl ⟨rfl, (by repeat' (first | with_reducible (first | exact HW0.out | apply bR | apply bD | apply bN | apply bA | apply bS) | (simp; done) | (simp; omega) | omega))⟩
  simp [results, Tryd.results66, go_sem]
 ·obtain ⟨rfl, c1⟩ : ka = 0 ∧ c ≠ 1 := by omega
  have t1 := beq_no b0
  have t2 := bne_yes c1
  clear h b0 c1
  go_enter Tryd.func66, Tryd.ntmps66
  go_wp2_with fail
  refine bodyPost_ret ?_ rfl ⟨rfl, (by repeat' (first | with_reducible (first | exact HW0.out | apply bR | apply bD | apply bN | apply bA | apply bS) | (simp; done) | (simp; omega) | omega))⟩
  simp [results, Tryd.results66, go_sem]

set_option maxRecDepth 100000 in
set_option maxHeartbeats 1000000 in
theorem VC_mov (ka la ha kb lb hb : Int) (b0 : kb ≠ 0) (w : World) :
  Calls Tryd.prog 66 #[.int .i64 1, .agg #[.int .i64 ka, .int .i64 la, .int .i64 ha], .agg #[.int .i64 kb, .int .i64 lb, .int .i64 hb]] w fun e w' =>
   e = .returned (.tuple #[.agg #[.int .i64 kb, .int .i64 lb, .int .i64 hb], .int .i64 0]) ∧ Below w.heap.size w w' := by
 have HW0 := Lib.hid (Below.refl w.heap.size w)
 have t1 := beq_no b0
 clear b0
 by_cases a0 : ka = 0
 ·have t2 : (ka == 0) = true := by rw [beq_iff_eq]; exact a0
  clear a0
  go_enter Tryd.func66, Tryd.ntmps66
  go_wp2_with fail
  refine bodyPost_ret ?_ rfl ⟨rfl, (by repeat' (first | with_reducible (first | exact HW0.out | apply bR | apply bD | apply bN | apply bA | apply bS) | (simp; done) | (simp; omega) | omega))⟩
  simp [results, Tryd.results66, go_sem]
 ·have t2 := beq_no a0
  clear a0
  go_enter Tryd.func66, Tryd.ntmps66
  go_wp2_with fail
  refine bodyPost_ret ?_ rfl ⟨rfl, (by repeat' (first | with_reducible (first | exact HW0.out | apply bR | apply bD | apply bN | apply bA | apply bS) | (simp; done) | (simp; omega) | omega))⟩
  simp [results, Tryd.results66, go_sem]

set_option maxRecDepth 100000 in
set_option maxHeartbeats 2000000 in
theorem VC_num (c la ha lb hb : Int) (c1 : c ≠ 1) (oa : B.Ok ⟨la, ha⟩) (ob : B.Ok ⟨lb, hb⟩) (w : World) :
  Calls Tryd.prog 66 #[.int .i64 c, .agg #[.int .i64 1, .int .i64 la, .int .i64 ha], .agg #[.int .i64 1, .int .i64 lb, .int .i64 hb]] w fun e w' =>
   e = .returned (.tuple #[.agg #[.int .i64 1, .int .i64 (bdoes c ⟨la, ha⟩ ⟨lb, hb⟩).lo, .int .i64 (bdoes c ⟨la, ha⟩ ⟨lb, hb⟩).hi], .int .i64 0]) ∧ Below w.heap.size w w' := by
 have HW0 := Lib.hid (Below.refl w.heap.size w)
 have t1 := beq_no c1
 have t2 := bne_yes c1
 have C := Lib.hid (fun w => BDoes_any c la ha lb hb oa.1 oa.2.1 ob.1 ob.2.1 oa.2.2 ob.2.2 w)
 generalize bdoes c ⟨la, ha⟩ ⟨lb, hb⟩ = d at *
 obtain ⟨dl, dh⟩ := d
 clear c1 oa ob
 go_enter Tryd.func66, Tryd.ntmps66
 go_wp2_with fail
 refine (C.out _).mono ?_
 (rintro e w1 ⟨rfl, hb⟩; obtain ⟨hc1, hf1⟩ := bcell hb; have hz1 := hb.size; (try simp at hz1); have HW1 := Lib.hid (show Below w.heap.size w w1 from Below.trans (by repeat' (first | with_reducible (first | exact HW0.out | apply bR | apply bD | apply bN | apply bA | apply bS) | (simp; done) | (simp; omega) | omega)) (hb.mono (by first | omega | simp <;> omega))); clear hb; (try have z10 : w.heap.size < w1.heap.size := by omega); (try have z11 : w.heap.size + 1 < w1.heap.size := by omega); (try have z12 : w.heap.size + 1 + 1 < w1.heap.size := by omega); (try have z13 : w.heap.size + 1 + 1 + 1 < w1.heap.size := by omega))
 (have k1_w_heap_size_1_1_0 : w1.cell? ⟨w.heap.size + 1 + 1, 0, none⟩ = some (.int .i64 0) := (by rw [hc1 _ _ (by first | omega | simp <;> omega)]; first | (simp [go_sem]; done) | assumption | (simp [go_sem, *]; done)); have r1_w_heap_size_1_1_0 : w1.frozen? ⟨w.heap.size + 1 + 1, 0, none⟩ = false := (by rw [hf1 _ _ (by first | omega | simp <;> omega)]; first | (simp [go_sem]; done) | assumption | (simp [go_sem, *]; done)); have k1_w_heap_size_1_1_1 : w1.cell? ⟨w.heap.size + 1 + 1, 1, none⟩ = some (.int .i64 0) := (by rw [hc1 _ _ (by first | omega | simp <;> omega)]; first | (simp [go_sem]; done) | assumption | (simp [go_sem, *]; done)); have r1_w_heap_size_1_1_1 : w1.frozen? ⟨w.heap.size + 1 + 1, 1, none⟩ = false := (by rw [hf1 _ _ (by first | omega | simp <;> omega)]; first | (simp [go_sem]; done) | assumption | (simp [go_sem, *]; done)); have k1_w_heap_size_1_1_2 : w1.cell? ⟨w.heap.size + 1 + 1, 2, none⟩ = some (.int .i64 0) := (by rw [hc1 _ _ (by first | omega | simp <;> omega)]; first | (simp [go_sem]; done) | assumption | (simp [go_sem, *]; done)); have r1_w_heap_size_1_1_2 : w1.frozen? ⟨w.heap.size + 1 + 1, 2, none⟩ = false := (by rw [hf1 _ _ (by first | omega | simp <;> omega)]; first | (simp [go_sem]; done) | assumption | (simp [go_sem, *]; done)))
 clear hc1 hf1
 go_wp2_with fail
 refine (VNumber_any dl dh _).mono ?_
 (rintro e w2 ⟨rfl, hb⟩; obtain ⟨hc2, hf2⟩ := bcell hb; have hz2 := hb.size; (try simp at hz2); have HW2 := Lib.hid (show Below w.heap.size w w2 from Below.trans (by repeat' (first | with_reducible (first | exact HW1.out | apply bR | apply bD | apply bN | apply bA | apply bS) | (simp; done) | (simp; omega) | omega)) (hb.mono (by first | omega | simp <;> omega))); clear hb; (try have z20 : w.heap.size < w2.heap.size := by omega); (try have z21 : w.heap.size + 1 < w2.heap.size := by omega); (try have z22 : w.heap.size + 1 + 1 < w2.heap.size := by omega); (try have z23 : w.heap.size + 1 + 1 + 1 < w2.heap.size := by omega))
 (have k2_w_heap_size_1_1_0 : w2.cell? ⟨w.heap.size + 1 + 1, 0, none⟩ = some (.int .i64 0) := (by rw [hc2 _ _ (by first | omega | simp <;> omega)]; first | (simp [go_sem]; done) | assumption | (simp [go_sem, *]; done)); have r2_w_heap_size_1_1_0 : w2.frozen? ⟨w.heap.size + 1 + 1, 0, none⟩ = false := (by rw [hf2 _ _ (by first | omega | simp <;> omega)]; first | (simp [go_sem]; done) | assumption | (simp [go_sem, *]; done)); have k2_w_heap_size_1_1_1 : w2.cell? ⟨w.heap.size + 1 + 1, 1, none⟩ = some (.int .i64 0) := (by rw [hc2 _ _ (by first | omega | simp <;> omega)]; first | (simp [go_sem]; done) | assumption | (simp [go_sem, *]; done)); have r2_w_heap_size_1_1_1 : w2.frozen? ⟨w.heap.size + 1 + 1, 1, none⟩ = false := (by rw [hf2 _ _ (by first | omega | simp <;> omega)]; first | (simp [go_sem]; done) | assumption | (simp [go_sem, *]; done)); have k2_w_heap_size_1_1_2 : w2.cell? ⟨w.heap.size + 1 + 1, 2, none⟩ = some (.int .i64 0) := (by rw [hc2 _ _ (by first | omega | simp <;> omega)]; first | (simp [go_sem]; done) | assumption | (simp [go_sem, *]; done)); have r2_w_heap_size_1_1_2 : w2.frozen? ⟨w.heap.size + 1 + 1, 2, none⟩ = false := (by rw [hf2 _ _ (by first | omega | simp <;> omega)]; first | (simp [go_sem]; done) | assumption | (simp [go_sem, *]; done)))
 clear hc2 hf2
 go_wp2_with fail
 refine bodyPost_ret ?_ rfl ⟨rfl, (by repeat' (first | with_reducible (first | exact HW2.out | apply bR | apply bD | apply bN | apply bA | apply bS) | (simp; done) | (simp; omega) | omega))⟩
 simp [results, Tryd.results66, go_sem, *]

set_option maxRecDepth 100000 in
set_option maxHeartbeats 2000000 in
/-- not a place and a number -/
theorem VC_arg (c ka la ha kb lb hb : Int) (a0 : ka ≠ 0) (b0 : kb ≠ 0) (c1 : c ≠ 1) (n1 : ¬ (ka = 1 ∧ kb = 1)) (hn : ¬ (c = 2 ∧ ka = 1)) (h : kb ≠ 1 ∨ ka = 5 ∨ (c ≠ 2 ∧ c ≠ 3)) (w : World) :
  Calls Tryd.prog 66 #[.int .i64 c, .agg #[.int .i64 ka, .int .i64 la, .int .i64 ha], .agg #[.int .i64 kb, .int .i64 lb, .int .i64 hb]] w fun e w' =>
   e = .returned (.tuple #[.agg #[.int .i64 0, .int .i64 0, .int .i64 0], .int .i64 1]) ∧ Below w.heap.size w w' := by
 have HW0 := Lib.hid (Below.refl w.heap.size w)
 have t0 := beq_no a0; have t1 := beq_no b0; have t2 := beq_no c1; have t3 := bne_yes c1
 by_cases a1 : ka = 1 <;> by_cases b1 : kb = 1 <;> by_cases c2 : c = 2
 all_goals (first | (exfalso; omega) | skip)
 all_goals (try (have t4 := beq_no a1)); (try (have t5 := beq_no b1)); (try (have t6 := bne_yes b1)); (try (have t7 := beq_no c2)); (try (have t8 := bne_yes c2))
 all_goals (try (have r1 : (ka == 1) = true := by rw [beq_iff_eq]; exact a1)); (try (have r2 : (kb == 1) = true := by rw [beq_iff_eq]; exact b1)); (try (have r3 : (kb != 1) = false := by simp [b1])); (try (have r4 : (c == 2) = true := by rw [beq_iff_eq]; exact c2)); (try (have r5 : (c != 2) = false := by simp [c2]))
 all_goals
  by_cases a5 : ka = 5
 all_goals (first | (exfalso; omega) | skip)
 all_goals (try (have q1 := beq_no a5)); (try (have q2 : (ka == 5) = true := by rw [beq_iff_eq]; exact a5))
 all_goals (try (have q3 : (c != 3) = true := bne_yes (by omega)))
 all_goals
  clear a0 b0 c1 n1 hn h a1 b1 c2 a5
  go_enter Tryd.func66, Tryd.ntmps66
  go_wp2_with fail
 all_goals
  refine bodyPost_ret (v := .tuple #[.agg #[.int .i64 0, .int .i64 0, .int .i64 0], .int .i64 1]) ?_ rfl ⟨rfl, (by repeat' (first | with_reducible (first | exact HW0.out | apply bR | apply bD | apply bN | apply bA | apply bS) | (simp; done) | (simp; omega) | omega))⟩
  simp [results, Tryd.results66, go_sem]

set_option maxRecDepth 100000 in
set_option maxHeartbeats 2000000 in
/-- a MAYBE is no place -/
theorem VC_maybe (la ha kb lb hb : Int) (h : kb ≠ 0 ∧ kb ≠ 1) (h5 : kb = 5) (w : World) :
  Calls Tryd.prog 66 #[.int .i64 2, .agg #[.int .i64 1, .int .i64 la, .int .i64 ha], .agg #[.int .i64 kb, .int .i64 lb, .int .i64 hb]] w fun e w' =>
   e = .returned (.tuple #[.agg #[.int .i64 0, .int .i64 0, .int .i64 0], .int .i64 1]) ∧ Below w.heap.size w w' := by
 have HW0 := Lib.hid (Below.refl w.heap.size w)
 subst h5
 clear h
 go_enter Tryd.func66, Tryd.ntmps66
 go_wp2_with fail
 refine bodyPost_ret (v := .tuple #[.agg #[.int .i64 0, .int .i64 0, .int .i64 0], .int .i64 1]) ?_ rfl ⟨rfl, (by repeat' (first | with_reducible (first | exact HW0.out | apply bR | apply bD | apply bN | apply bA | apply bS) | (simp; done) | (simp; omega) | omega))⟩
 simp [results, Tryd.results66, go_sem]
/- shift -/
set_option maxRecDepth 100000 in
set_option maxHeartbeats 4000000 in
theorem VC_shift2 (ka la ha lb hb : Int) (hk : ka = 2 ∨ ka = 3 ∨ ka = 4) (oa : B.Ok ⟨la, ha⟩) (ob : B.Ok ⟨lb, hb⟩) (w : World) :
  Calls Tryd.prog 66 #[.int .i64 2, .agg #[.int .i64 ka, .int .i64 la, .int .i64 ha], .agg #[.int .i64 1, .int .i64 lb, .int .i64 hb]] w fun e w' =>
   e = .returned (.tuple #[.agg #[.int .i64 (if bdoes 2 ⟨la, ha⟩ ⟨lb, hb⟩ = ball then 0 else ka), .int .i64 (if bdoes 2 ⟨la, ha⟩ ⟨lb, hb⟩ = ball then 0 else (bdoes 2 ⟨la, ha⟩ ⟨lb, hb⟩).lo), .int .i64 (if bdoes 2 ⟨la, ha⟩ ⟨lb, hb⟩ = ball then 0 else (bdoes 2 ⟨la, ha⟩ ⟨lb, hb⟩).hi)], .int .i64 (if bdoes 2 ⟨la, ha⟩ ⟨lb, hb⟩ = ball then 2 else 0)]) ∧ Below w.heap.size w w' := by
 have HW0 := Lib.hid (Below.refl w.heap.size w)
 have t1 := beq_no (show ka ≠ 0 by omega); have t2 := beq_no (show ka ≠ 1 by omega); have t3 := beq_no (show ka ≠ 5 by omega)
 clear hk
 have C := Lib.hid (fun w => BDoes_any 2 la ha lb hb oa.1 oa.2.1 ob.1 ob.2.1 oa.2.2 ob.2.2 w)
 generalize bdoes 2 ⟨la, ha⟩ ⟨lb, hb⟩ = d at *
 obtain ⟨dl, dh⟩ := d
 have hd : ((⟨dl, dh⟩ : B) = ball) ↔ (dl = -9223372036854775808 ∧ dh = 9223372036854775807) := by unfold ball; simp
 have HD := Lib.hid hd
 clear oa ob hd
 have CA := Lib.hid (show ∀ wd dr os, Calls Tryd.prog 84 #[] (Go.Sort.grow (redrawn wd dr) os) fun e w' => e = .returned (.agg #[.int .i64 (-9223372036854775808), .int .i64 9223372036854775807]) ∧ ∃ p : Regrown, w' = Go.Sort.grow (redrawn wd p.d) p.os from fun wd dr os => Calls.regrown_of (All_any _))
 go_enter Tryd.func66, Tryd.ntmps66
 go_wp2_with fail
 refine (C.out _).mono ?_
 (rintro e w1 ⟨rfl, hb⟩; obtain ⟨hc1, hf1⟩ := bcell hb; have hz1 := hb.size; (try simp at hz1); have HW1 := Lib.hid (show Below w.heap.size w w1 from Below.trans (by repeat' (first | with_reducible (first | exact HW0.out | apply bR | apply bD | apply bN | apply bA | apply bS) | (simp; done) | (simp; omega) | omega)) (hb.mono (by first | omega | simp <;> omega))); clear hb; (try have z10 : w.heap.size < w1.heap.size := by omega); (try have z11 : w.heap.size + 1 < w1.heap.size := by omega); (try have z12 : w.heap.size + 1 + 1 < w1.heap.size := by omega); (try have z13 : w.heap.size + 1 + 1 + 1 < w1.heap.size := by omega))
 (have k1_w_heap_size_0 : w1.cell? ⟨w.heap.size, 0, none⟩ = some (.int .i64 ka) := (by rw [hc1 _ _ (by first | omega | simp <;> omega)]; first | (simp [go_sem]; done) | assumption | (simp [go_sem, *]; done)); have r1_w_heap_size_0 : w1.frozen? ⟨w.heap.size, 0, none⟩ = false := (by rw [hf1 _ _ (by first | omega | simp <;> omega)]; first | (simp [go_sem]; done) | assumption | (simp [go_sem, *]; done)); have k1_w_heap_size_1 : w1.cell? ⟨w.heap.size, 1, none⟩ = some (.int .i64 la) := (by rw [hc1 _ _ (by first | omega | simp <;> omega)]; first | (simp [go_sem]; done) | assumption | (simp [go_sem, *]; done)); have r1_w_heap_size_1 : w1.frozen? ⟨w.heap.size, 1, none⟩ = false := (by rw [hf1 _ _ (by first | omega | simp <;> omega)]; first | (simp [go_sem]; done) | assumption | (simp [go_sem, *]; done)); have k1_w_heap_size_2 : w1.cell? ⟨w.heap.size, 2, none⟩ = some (.int .i64 ha) := (by rw [hc1 _ _ (by first | omega | simp <;> omega)]; first | (simp [go_sem]; done) | assumption | (simp [go_sem, *]; done)); have r1_w_heap_size_2 : w1.frozen? ⟨w.heap.size, 2, none⟩ = false := (by rw [hf1 _ _ (by first | omega | simp <;> omega)]; first | (simp [go_sem]; done) | assumption | (simp [go_sem, *]; done)))
 (have k1_w_heap_size_1_0 : w1.cell? ⟨w.heap.size + 1, 0, none⟩ = some (.int .i64 1) := (by rw [hc1 _ _ (by first | omega | simp <;> omega)]; first | (simp [go_sem]; done) | assumption | (simp [go_sem, *]; done)); have r1_w_heap_size_1_0 : w1.frozen? ⟨w.heap.size + 1, 0, none⟩ = false := (by rw [hf1 _ _ (by first | omega | simp <;> omega)]; first | (simp [go_sem]; done) | assumption | (simp [go_sem, *]; done)); have k1_w_heap_size_1_1 : w1.cell? ⟨w.heap.size + 1, 1, none⟩ = some (.int .i64 lb) := (by rw [hc1 _ _ (by first | omega | simp <;> omega)]; first | (simp [go_sem]; done) | assumption | (simp [go_sem, *]; done)); have r1_w_heap_size_1_1 : w1.frozen? ⟨w.heap.size + 1, 1, none⟩ = false := (by rw [hf1 _ _ (by first | omega | simp <;> omega)]; first | (simp [go_sem]; done) | assumption | (simp [go_sem, *]; done)); have k1_w_heap_size_1_2 : w1.cell? ⟨w.heap.size + 1, 2, none⟩ = some (.int .i64 hb) := (by rw [hc1 _ _ (by first | omega | simp <;> omega)]; first | (simp [go_sem]; done) | assumption | (simp [go_sem, *]; done)); have r1_w_heap_size_1_2 : w1.frozen? ⟨w.heap.size + 1, 2, none⟩ = false := (by rw [hf1 _ _ (by first | omega | simp <;> omega)]; first | (simp [go_sem]; done) | assumption | (simp [go_sem, *]; done)))
 (have k1_w_heap_size_1_1_0 : w1.cell? ⟨w.heap.size + 1 + 1, 0, none⟩ = some (.int .i64 0) := (by rw [hc1 _ _ (by first | omega | simp <;> omega)]; first | (simp [go_sem]; done) | assumption | (simp [go_sem, *]; done)); have r1_w_heap_size_1_1_0 : w1.frozen? ⟨w.heap.size + 1 + 1, 0, none⟩ = false := (by rw [hf1 _ _ (by first | omega | simp <;> omega)]; first | (simp [go_sem]; done) | assumption | (simp [go_sem, *]; done)); have k1_w_heap_size_1_1_1 : w1.cell? ⟨w.heap.size + 1 + 1, 1, none⟩ = some (.int .i64 0) := (by rw [hc1 _ _ (by first | omega | simp <;> omega)]; first | (simp [go_sem]; done) | assumption | (simp [go_sem, *]; done)); have r1_w_heap_size_1_1_1 : w1.frozen? ⟨w.heap.size + 1 + 1, 1, none⟩ = false := (by rw [hf1 _ _ (by first | omega | simp <;> omega)]; first | (simp [go_sem]; done) | assumption | (simp [go_sem, *]; done)); have k1_w_heap_size_1_1_2 : w1.cell? ⟨w.heap.size + 1 + 1, 2, none⟩ = some (.int .i64 0) := (by rw [hc1 _ _ (by first | omega | simp <;> omega)]; first | (simp [go_sem]; done) | assumption | (simp [go_sem, *]; done)); have r1_w_heap_size_1_1_2 : w1.frozen? ⟨w.heap.size + 1 + 1, 2, none⟩ = false := (by rw [hf1 _ _ (by first | omega | simp <;> omega)]; first | (simp [go_sem]; done) | assumption | (simp [go_sem, *]; done)))
 clear hc1 hf1
 go_wp2_with fail
 generalize hW : World.alloc w1 _ = wd
 have HB1 := Lib.hid (show Below w.heap.size w wd from hW ▸ HW1.out.alloc (by omega) _)
 have zd : w1.heap.size < wd.heap.size := by rw [← hW]; simp
 have d0 : wd.cell? ⟨w1.heap.size, 0, none⟩ = some (.int .i64 dl) := by rw [← hW]; simp [go_sem]
 have d1 : wd.cell? ⟨w1.heap.size, 1, none⟩ = some (.int .i64 dh) := by rw [← hW]; simp [go_sem]
 have hb2 : Below w1.heap.size w1 wd := hW ▸ (Below.refl _ _).alloc (Nat.le_refl _) _
 have a0 := (hb2.cell (p := ⟨w.heap.size, 0, none⟩) z10).trans k1_w_heap_size_0
 have b0 := (hb2.cell (p := ⟨w.heap.size + 1 + 1, 0, none⟩) z12).trans k1_w_heap_size_1_1_0
 have b1 := (hb2.cell (p := ⟨w.heap.size + 1 + 1, 1, none⟩) z12).trans k1_w_heap_size_1_1_1
 have b2 := (hb2.cell (p := ⟨w.heap.size + 1 + 1, 2, none⟩) z12).trans k1_w_heap_size_1_1_2
 have c0 := (hb2.frozen (p := ⟨w.heap.size + 1 + 1, 0, none⟩) z12).trans r1_w_heap_size_1_1_0
 have c1 := (hb2.frozen (p := ⟨w.heap.size + 1 + 1, 1, none⟩) z12).trans r1_w_heap_size_1_1_1
 have c2 := (hb2.frozen (p := ⟨w.heap.size + 1 + 1, 2, none⟩) z12).trans r1_w_heap_size_1_1_2
 have z0 : w.heap.size < wd.heap.size := by omega
 have z2 : w.heap.size + 1 + 1 < wd.heap.size := by omega
 clear hW hb2 k1_w_heap_size_0 r1_w_heap_size_0 k1_w_heap_size_1 r1_w_heap_size_1 k1_w_heap_size_2 r1_w_heap_size_2 k1_w_heap_size_1_0 r1_w_heap_size_1_0 k1_w_heap_size_1_1 r1_w_heap_size_1_1 k1_w_heap_size_1_2 r1_w_heap_size_1_2 k1_w_heap_size_1_1_0 r1_w_heap_size_1_1_0 k1_w_heap_size_1_1_1 r1_w_heap_size_1_1_1 k1_w_heap_size_1_1_2 r1_w_heap_size_1_1_2
 have k0 := cell_regrown d0; have k1 := cell_regrown d1
 refine wp_below_tail 2 (by kernel_rfl) (by kernel_rfl) ?_
 repeat (quiet_step (first | exact CA.out _ _ _))
 refine wpQuiet_nil ?_
 intro wq hwq
 have hbq : Below wd.heap.size wd wq := by
  obtain ⟨p, hp⟩ := hwq
  rw [hp]; exact below_regrown _ _ _
 clear hwq k0 k1
 replace d0 := (hbq.cell (p := ⟨w1.heap.size, 0, none⟩) zd).trans d0
 replace d1 := (hbq.cell (p := ⟨w1.heap.size, 1, none⟩) zd).trans d1
 replace a0 := (hbq.cell (p := ⟨w.heap.size, 0, none⟩) z0).trans a0
 replace b0 := (hbq.cell (p := ⟨w.heap.size + 1 + 1, 0, none⟩) z2).trans b0
 replace b1 := (hbq.cell (p := ⟨w.heap.size + 1 + 1, 1, none⟩) z2).trans b1
 replace b2 := (hbq.cell (p := ⟨w.heap.size + 1 + 1, 2, none⟩) z2).trans b2
 replace c0 := (hbq.frozen (p := ⟨w.heap.size + 1 + 1, 0, none⟩) z2).trans c0
 replace c1 := (hbq.frozen (p := ⟨w.heap.size + 1 + 1, 1, none⟩) z2).trans c1
 replace c2 := (hbq.frozen (p := ⟨w.heap.size + 1 + 1, 2, none⟩) z2).trans c2
 have HWQ := Lib.hid (HB1.out.trans (hbq.mono (by omega)))
 have y0 : w.heap.size < wq.heap.size := by have := hbq.size; omega
 clear hbq HB1 HW1
 by_cases e : dl = -9223372036854775808 ∧ dh = 9223372036854775807
 ·have yes := Lib.hid (HD.out.2 e)
  obtain ⟨rfl, rfl⟩ := e
  go_wp2_with fail
  refine bodyPost_ret (v := .tuple #[.agg #[.int .i64 0, .int .i64 0, .int .i64 0], .int .i64 2]) ?_ rfl ⟨by have ye := yes.out; first | rfl | simp [ye], (by repeat' (first | with_reducible (first | exact HWQ.out | apply bR | apply bD | apply bN | apply bA | apply bS) | (simp; done) | (simp; omega) | omega))⟩
  simp [results, Tryd.results66, go_sem, *]
 ·have NE := Lib.hid (show ¬ ((⟨dl, dh⟩ : B) = ball) from fun h => e (HD.out.1 h))
  clear HD
  by_cases e1 : dl = -9223372036854775808
  ·have e2 : ¬ dh = 9223372036854775807 := fun h => e ⟨e1, h⟩
   subst e1
   have e3 := beq_no e2
   clear e e2
   go_wp2_with fail
   refine bodyPost_ret (v := .tuple #[.agg #[.int .i64 ka, .int .i64 (-9223372036854775808), .int .i64 dh], .int .i64 0]) ?_ rfl ⟨by have ne := NE.out; first | rfl | simp [ne], (by repeat' (first | with_reducible (first | exact HWQ.out | apply bR | apply bD | apply bN | apply bA | apply bS) | (simp; done) | (simp; omega) | omega))⟩
   simp [results, Tryd.results66, go_sem, *]
  ·have e3 := beq_no e1
   clear e e1
   go_wp2_with fail
   refine bodyPost_ret (v := .tuple #[.agg #[.int .i64 ka, .int .i64 dl, .int .i64 dh], .int .i64 0]) ?_ rfl ⟨by have ne := NE.out; first | rfl | simp [ne], (by repeat' (first | with_reducible (first | exact HWQ.out | apply bR | apply bD | apply bN | apply bA | apply bS) | (simp; done) | (simp; omega) | omega))⟩
   simp [results, Tryd.results66, go_sem, *]

set_option maxRecDepth 100000 in
set_option maxHeartbeats 4000000 in
theorem VC_shift3 (ka la ha lb hb : Int) (hk : ka = 2 ∨ ka = 3 ∨ ka = 4) (oa : B.Ok ⟨la, ha⟩) (ob : B.Ok ⟨lb, hb⟩) (w : World) :
  Calls Tryd.prog 66 #[.int .i64 3, .agg #[.int .i64 ka, .int .i64 la, .int .i64 ha], .agg #[.int .i64 1, .int .i64 lb, .int .i64 hb]] w fun e w' =>
   e = .returned (.tuple #[.agg #[.int .i64 (if bdoes 3 ⟨la, ha⟩ ⟨lb, hb⟩ = ball then 0 else ka), .int .i64 (if bdoes 3 ⟨la, ha⟩ ⟨lb, hb⟩ = ball then 0 else (bdoes 3 ⟨la, ha⟩ ⟨lb, hb⟩).lo), .int .i64 (if bdoes 3 ⟨la, ha⟩ ⟨lb, hb⟩ = ball then 0 else (bdoes 3 ⟨la, ha⟩ ⟨lb, hb⟩).hi)], .int .i64 (if bdoes 3 ⟨la, ha⟩ ⟨lb, hb⟩ = ball then 2 else 0)]) ∧ Below w.heap.size w w' := by
 have HW0 := Lib.hid (Below.refl w.heap.size w)
 have t1 := beq_no (show ka ≠ 0 by omega); have t2 := beq_no (show ka ≠ 1 by omega); have t3 := beq_no (show ka ≠ 5 by omega)
 clear hk
 have C := Lib.hid (fun w => BDoes_any 3 la ha lb hb oa.1 oa.2.1 ob.1 ob.2.1 oa.2.2 ob.2.2 w)
 generalize bdoes 3 ⟨la, ha⟩ ⟨lb, hb⟩ = d at *
 obtain ⟨dl, dh⟩ := d
 have hd : ((⟨dl, dh⟩ : B) = ball) ↔ (dl = -9223372036854775808 ∧ dh = 9223372036854775807) := by unfold ball; simp
 have HD := Lib.hid hd
 clear oa ob hd
 have CA := Lib.hid (show ∀ wd dr os, Calls Tryd.prog 84 #[] (Go.Sort.grow (redrawn wd dr) os) fun e w' => e = .returned (.agg #[.int .i64 (-9223372036854775808), .int .i64 9223372036854775807]) ∧ ∃ p : Regrown, w' = Go.Sort.grow (redrawn wd p.d) p.os from fun wd dr os => Calls.regrown_of (All_any _))
 go_enter Tryd.func66, Tryd.ntmps66
 go_wp2_with fail
 refine (C.out _).mono ?_
 (rintro e w1 ⟨rfl, hb⟩; obtain ⟨hc1, hf1⟩ := bcell hb; have hz1 := hb.size; (try simp at hz1); have HW1 := Lib.hid (show Below w.heap.size w w1 from Below.trans (by repeat' (first | with_reducible (first | exact HW0.out | apply bR | apply bD | apply bN | apply bA | apply bS) | (simp; done) | (simp; omega) | omega)) (hb.mono (by first | omega | simp <;> omega))); clear hb; (try have z10 : w.heap.size < w1.heap.size := by omega); (try have z11 : w.heap.size + 1 < w1.heap.size := by omega); (try have z12 : w.heap.size + 1 + 1 < w1.heap.size := by omega); (try have z13 : w.heap.size + 1 + 1 + 1 < w1.heap.size := by omega))
 (have k1_w_heap_size_0 : w1.cell? ⟨w.heap.size, 0, none⟩ = some (.int .i64 ka) := (by rw [hc1 _ _ (by first | omega | simp <;> omega)]; first | (simp [go_sem]; done) | assumption | (simp [go_sem, *]; done)); have r1_w_heap_size_0 : w1.frozen? ⟨w.heap.size, 0, none⟩ = false := (by rw [hf1 _ _ (by first | omega | simp <;> omega)]; first | (simp [go_sem]; done) | assumption | (simp [go_sem, *]; done)); have k1_w_heap_size_1 : w1.cell? ⟨w.heap.size, 1, none⟩ = some (.int .i64 la) := (by rw [hc1 _ _ (by first | omega | simp <;> omega)]; first | (simp [go_sem]; done) | assumption | (simp [go_sem, *]; done)); have r1_w_heap_size_1 : w1.frozen? ⟨w.heap.size, 1, none⟩ = false := (by rw [hf1 _ _ (by first | omega | simp <;> omega)]; first | (simp [go_sem]; done) | assumption | (simp [go_sem, *]; done)); have k1_w_heap_size_2 : w1.cell? ⟨w.heap.size, 2, none⟩ = some (.int .i64 ha) := (by rw [hc1 _ _ (by first | omega | simp <;> omega)]; first | (simp [go_sem]; done) | assumption | (simp [go_sem, *]; done)); have r1_w_heap_size_2 : w1.frozen? ⟨w.heap.size, 2, none⟩ = false := (by rw [hf1 _ _ (by first | omega | simp <;> omega)]; first | (simp [go_sem]; done) | assumption | (simp [go_sem, *]; done)))
 (have k1_w_heap_size_1_0 : w1.cell? ⟨w.heap.size + 1, 0, none⟩ = some (.int .i64 1) := (by rw [hc1 _ _ (by first | omega | simp <;> omega)]; first | (simp [go_sem]; done) | assumption | (simp [go_sem, *]; done)); have r1_w_heap_size_1_0 : w1.frozen? ⟨w.heap.size + 1, 0, none⟩ = false := (by rw [hf1 _ _ (by first | omega | simp <;> omega)]; first | (simp [go_sem]; done) | assumption | (simp [go_sem, *]; done)); have k1_w_heap_size_1_1 : w1.cell? ⟨w.heap.size + 1, 1, none⟩ = some (.int .i64 lb) := (by rw [hc1 _ _ (by first | omega | simp <;> omega)]; first | (simp [go_sem]; done) | assumption | (simp [go_sem, *]; done)); have r1_w_heap_size_1_1 : w1.frozen? ⟨w.heap.size + 1, 1, none⟩ = false := (by rw [hf1 _ _ (by first | omega | simp <;> omega)]; first | (simp [go_sem]; done) | assumption | (simp [go_sem, *]; done)); have k1_w_heap_size_1_2 : w1.cell? ⟨w.heap.size + 1, 2, none⟩ = some (.int .i64 hb) := (by rw [hc1 _ _ (by first | omega | simp <;> omega)]; first | (simp [go_sem]; done) | assumption | (simp [go_sem, *]; done)); have r1_w_heap_size_1_2 : w1.frozen? ⟨w.heap.size + 1, 2, none⟩ = false := (by rw [hf1 _ _ (by first | omega | simp <;> omega)]; first | (simp [go_sem]; done) | assumption | (simp [go_sem, *]; done)))
 (have k1_w_heap_size_1_1_0 : w1.cell? ⟨w.heap.size + 1 + 1, 0, none⟩ = some (.int .i64 0) := (by rw [hc1 _ _ (by first | omega | simp <;> omega)]; first | (simp [go_sem]; done) | assumption | (simp [go_sem, *]; done)); have r1_w_heap_size_1_1_0 : w1.frozen? ⟨w.heap.size + 1 + 1, 0, none⟩ = false := (by rw [hf1 _ _ (by first | omega | simp <;> omega)]; first | (simp [go_sem]; done) | assumption | (simp [go_sem, *]; done)); have k1_w_heap_size_1_1_1 : w1.cell? ⟨w.heap.size + 1 + 1, 1, none⟩ = some (.int .i64 0) := (by rw [hc1 _ _ (by first | omega | simp <;> omega)]; first | (simp [go_sem]; done) | assumption | (simp [go_sem, *]; done)); have r1_w_heap_size_1_1_1 : w1.frozen? ⟨w.heap.size + 1 + 1, 1, none⟩ = false := (by rw [hf1 _ _ (by first | omega | simp <;> omega)]; first | (simp [go_sem]; done) | assumption | (simp [go_sem, *]; done)); have k1_w_heap_size_1_1_2 : w1.cell? ⟨w.heap.size + 1 + 1, 2, none⟩ = some (.int .i64 0) := (by rw [hc1 _ _ (by first | omega | simp <;> omega)]; first | (simp [go_sem]; done) | assumption | (simp [go_sem, *]; done)); have r1_w_heap_size_1_1_2 : w1.frozen? ⟨w.heap.size + 1 + 1, 2, none⟩ = false := (by rw [hf1 _ _ (by first | omega | simp <;> omega)]; first | (simp [go_sem]; done) | assumption | (simp [go_sem, *]; done)))
 clear hc1 hf1
 go_wp2_with fail
 generalize hW : World.alloc w1 _ = wd
 have HB1 := Lib.hid (show Below w.heap.size w wd from hW ▸ HW1.out.alloc (by omega) _)
 have zd : w1.heap.size < wd.heap.size := by rw [← hW]; simp
 have d0 : wd.cell? ⟨w1.heap.size, 0, none⟩ = some (.int .i64 dl) := by rw [← hW]; simp [go_sem]
 have d1 : wd.cell? ⟨w1.heap.size, 1, none⟩ = some (.int .i64 dh) := by rw [← hW]; simp [go_sem]
 have hb2 : Below w1.heap.size w1 wd := hW ▸ (Below.refl _ _).alloc (Nat.le_refl _) _
 have a0 := (hb2.cell (p := ⟨w.heap.size, 0, none⟩) z10).trans k1_w_heap_size_0
 have b0 := (hb2.cell (p := ⟨w.heap.size + 1 + 1, 0, none⟩) z12).trans k1_w_heap_size_1_1_0
 have b1 := (hb2.cell (p := ⟨w.heap.size + 1 + 1, 1, none⟩) z12).trans k1_w_heap_size_1_1_1
 have b2 := (hb2.cell (p := ⟨w.heap.size + 1 + 1, 2, none⟩) z12).trans k1_w_heap_size_1_1_2
 have c0 := (hb2.frozen (p := ⟨w.heap.size + 1 + 1, 0, none⟩) z12).trans r1_w_heap_size_1_1_0
 have c1 := (hb2.frozen (p := ⟨w.heap.size + 1 + 1, 1, none⟩) z12).trans r1_w_heap_size_1_1_1
 have c2 := (hb2.frozen (p := ⟨w.heap.size + 1 + 1, 2, none⟩) z12).trans r1_w_heap_size_1_1_2
 have z0 : w.heap.size < wd.heap.size := by omega
 have z2 : w.heap.size + 1 + 1 < wd.heap.size := by omega
 clear hW hb2 k1_w_heap_size_0 r1_w_heap_size_0 k1_w_heap_size_1 r1_w_heap_size_1 k1_w_heap_size_2 r1_w_heap_size_2 k1_w_heap_size_1_0 r1_w_heap_size_1_0 k1_w_heap_size_1_1 r1_w_heap_size_1_1 k1_w_heap_size_1_2 r1_w_heap_size_1_2 k1_w_heap_size_1_1_0 r1_w_heap_size_1_1_0 k1_w_heap_size_1_1_1 r1_w_heap_size_1_1_1 k1_w_heap_size_1_1_2 r1_w_heap_size_1_1_2
 have k0 := cell_regrown d0; have k1 := cell_regrown d1
 refine wp_below_tail 2 (by kernel_rfl) (by kernel_rfl) ?_
 repeat (quiet_step (first | exact CA.out _ _ _))
 refine wpQuiet_nil ?_
 intro wq hwq
 have hbq : Below wd.heap.size wd wq := by
  obtain ⟨p, hp⟩ := hwq
  rw [hp]; exact below_regrown _ _ _
 clear hwq k0 k1
 replace d0 := (hbq.cell (p := ⟨w1.heap.size, 0, none⟩) zd).trans d0
 replace d1 := (hbq.cell (p := ⟨w1.heap.size, 1, none⟩) zd).trans d1
 replace a0 := (hbq.cell (p := ⟨w.heap.size, 0, none⟩) z0).trans a0
 replace b0 := (hbq.cell (p := ⟨w.heap.size + 1 + 1, 0, none⟩) z2).trans b0
 replace b1 := (hbq.cell (p := ⟨w.heap.size + 1 + 1, 1, none⟩) z2).trans b1
 replace b2 := (hbq.cell (p := ⟨w.heap.size + 1 + 1, 2, none⟩) z2).trans b2
 replace c0 := (hbq.frozen (p := ⟨w.heap.size + 1 + 1, 0, none⟩) z2).trans c0
 replace c1 := (hbq.frozen (p := ⟨w.heap.size + 1 + 1, 1, none⟩) z2).trans c1
 replace c2 := (hbq.frozen (p := ⟨w.heap.size + 1 + 1, 2, none⟩) z2).trans c2
 have HWQ := Lib.hid (HB1.out.trans (hbq.mono (by omega)))
 have y0 : w.heap.size < wq.heap.size := by have := hbq.size; omega
 clear hbq HB1 HW1
 by_cases e : dl = -9223372036854775808 ∧ dh = 9223372036854775807
 ·have yes := Lib.hid (HD.out.2 e)
  obtain ⟨rfl, rfl⟩ := e
  go_wp2_with fail
  refine bodyPost_ret (v := .tuple #[.agg #[.int .i64 0, .int .i64 0, .int .i64 0], .int .i64 2]) ?_ rfl ⟨by have ye := yes.out; first | rfl | simp [ye], (by repeat' (first | with_reducible (first | exact HWQ.out | apply bR | apply bD | apply bN | apply bA | apply bS) | (simp; done) | (simp; omega) | omega))⟩
  simp [results, Tryd.results66, go_sem, *]
 ·have NE := Lib.hid (show ¬ ((⟨dl, dh⟩ : B) = ball) from fun h => e (HD.out.1 h))
  clear HD
  by_cases e1 : dl = -9223372036854775808
  ·have e2 : ¬ dh = 9223372036854775807 := fun h => e ⟨e1, h⟩
   subst e1
   have e3 := beq_no e2
   clear e e2
   go_wp2_with fail
   refine bodyPost_ret (v := .tuple #[.agg #[.int .i64 ka, .int .i64 (-9223372036854775808), .int .i64 dh], .int .i64 0]) ?_ rfl ⟨by have ne := NE.out; first | rfl | simp [ne], (by repeat' (first | with_reducible (first | exact HWQ.out | apply bR | apply bD | apply bN | apply bA | apply bS) | (simp; done) | (simp; omega) | omega))⟩
   simp [results, Tryd.results66, go_sem, *]
  ·have e3 := beq_no e1
   clear e e1
   go_wp2_with fail
   refine bodyPost_ret (v := .tuple #[.agg #[.int .i64 ka, .int .i64 dl, .int .i64 dh], .int .i64 0]) ?_ rfl ⟨by have ne := NE.out; first | rfl | simp [ne], (by repeat' (first | with_reducible (first | exact HWQ.out | apply bR | apply bD | apply bN | apply bA | apply bS) | (simp; done) | (simp; omega) | omega))⟩
   simp [results, Tryd.results66, go_sem, *]

set_option maxRecDepth 100000 in
set_option maxHeartbeats 4000000 in
theorem VC_swap (la ha kb lb hb : Int) (hk : kb = 2 ∨ kb = 3 ∨ kb = 4) (oa : B.Ok ⟨la, ha⟩) (ob : B.Ok ⟨lb, hb⟩) (w : World) :
  Calls Tryd.prog 66 #[.int .i64 2, .agg #[.int .i64 1, .int .i64 la, .int .i64 ha], .agg #[.int .i64 kb, .int .i64 lb, .int .i64 hb]] w fun e w' =>
   e = .returned (.tuple #[.agg #[.int .i64 (if bdoes 2 ⟨lb, hb⟩ ⟨la, ha⟩ = ball then 0 else kb), .int .i64 (if bdoes 2 ⟨lb, hb⟩ ⟨la, ha⟩ = ball then 0 else (bdoes 2 ⟨lb, hb⟩ ⟨la, ha⟩).lo), .int .i64 (if bdoes 2 ⟨lb, hb⟩ ⟨la, ha⟩ = ball then 0 else (bdoes 2 ⟨lb, hb⟩ ⟨la, ha⟩).hi)], .int .i64 (if bdoes 2 ⟨lb, hb⟩ ⟨la, ha⟩ = ball then 2 else 0)]) ∧ Below w.heap.size w w' := by
 have HW0 := Lib.hid (Below.refl w.heap.size w)
 have t1 := beq_no (show kb ≠ 0 by omega); have t2 := beq_no (show kb ≠ 1 by omega); have t3 := beq_no (show kb ≠ 5 by omega)
 clear hk
 have C := Lib.hid (fun w => BDoes_any 2 lb hb la ha ob.1 ob.2.1 oa.1 oa.2.1 ob.2.2 oa.2.2 w)
 generalize bdoes 2 ⟨lb, hb⟩ ⟨la, ha⟩ = d at *
 obtain ⟨dl, dh⟩ := d
 have hd : ((⟨dl, dh⟩ : B) = ball) ↔ (dl = -9223372036854775808 ∧ dh = 9223372036854775807) := by unfold ball; simp
 have HD := Lib.hid hd
 clear oa ob hd
 have CA := Lib.hid (show ∀ wd dr os, Calls Tryd.prog 84 #[] (Go.Sort.grow (redrawn wd dr) os) fun e w' => e = .returned (.agg #[.int .i64 (-9223372036854775808), .int .i64 9223372036854775807]) ∧ ∃ p : Regrown, w' = Go.Sort.grow (redrawn wd p.d) p.os from fun wd dr os => Calls.regrown_of (All_any _))
 go_enter Tryd.func66, Tryd.ntmps66
 go_wp2_with fail
 refine (C.out _).mono ?_
 (rintro e w1 ⟨rfl, hb⟩; obtain ⟨hc1, hf1⟩ := bcell hb; have hz1 := hb.size; (try simp at hz1); have HW1 := Lib.hid (show Below w.heap.size w w1 from Below.trans (by repeat' (first | with_reducible (first | exact HW0.out | apply bR | apply bD | apply bN | apply bA | apply bS) | (simp; done) | (simp; omega) | omega)) (hb.mono (by first | omega | simp <;> omega))); clear hb; (try have z10 : w.heap.size < w1.heap.size := by omega); (try have z11 : w.heap.size + 1 < w1.heap.size := by omega); (try have z12 : w.heap.size + 1 + 1 < w1.heap.size := by omega); (try have z13 : w.heap.size + 1 + 1 + 1 < w1.heap.size := by omega))
 (have k1_w_heap_size_0 : w1.cell? ⟨w.heap.size, 0, none⟩ = some (.int .i64 kb) := (by rw [hc1 _ _ (by first | omega | simp <;> omega)]; first | (simp [go_sem]; done) | assumption | (simp [go_sem, *]; done)); have r1_w_heap_size_0 : w1.frozen? ⟨w.heap.size, 0, none⟩ = false := (by rw [hf1 _ _ (by first | omega | simp <;> omega)]; first | (simp [go_sem]; done) | assumption | (simp [go_sem, *]; done)); have k1_w_heap_size_1 : w1.cell? ⟨w.heap.size, 1, none⟩ = some (.int .i64 lb) := (by rw [hc1 _ _ (by first | omega | simp <;> omega)]; first | (simp [go_sem]; done) | assumption | (simp [go_sem, *]; done)); have r1_w_heap_size_1 : w1.frozen? ⟨w.heap.size, 1, none⟩ = false := (by rw [hf1 _ _ (by first | omega | simp <;> omega)]; first | (simp [go_sem]; done) | assumption | (simp [go_sem, *]; done)); have k1_w_heap_size_2 : w1.cell? ⟨w.heap.size, 2, none⟩ = some (.int .i64 hb) := (by rw [hc1 _ _ (by first | omega | simp <;> omega)]; first | (simp [go_sem]; done) | assumption | (simp [go_sem, *]; done)); have r1_w_heap_size_2 : w1.frozen? ⟨w.heap.size, 2, none⟩ = false := (by rw [hf1 _ _ (by first | omega | simp <;> omega)]; first | (simp [go_sem]; done) | assumption | (simp [go_sem, *]; done)))
 (have k1_w_heap_size_1_0 : w1.cell? ⟨w.heap.size + 1, 0, none⟩ = some (.int .i64 1) := (by rw [hc1 _ _ (by first | omega | simp <;> omega)]; first | (simp [go_sem]; done) | assumption | (simp [go_sem, *]; done)); have r1_w_heap_size_1_0 : w1.frozen? ⟨w.heap.size + 1, 0, none⟩ = false := (by rw [hf1 _ _ (by first | omega | simp <;> omega)]; first | (simp [go_sem]; done) | assumption | (simp [go_sem, *]; done)); have k1_w_heap_size_1_1 : w1.cell? ⟨w.heap.size + 1, 1, none⟩ = some (.int .i64 la) := (by rw [hc1 _ _ (by first | omega | simp <;> omega)]; first | (simp [go_sem]; done) | assumption | (simp [go_sem, *]; done)); have r1_w_heap_size_1_1 : w1.frozen? ⟨w.heap.size + 1, 1, none⟩ = false := (by rw [hf1 _ _ (by first | omega | simp <;> omega)]; first | (simp [go_sem]; done) | assumption | (simp [go_sem, *]; done)); have k1_w_heap_size_1_2 : w1.cell? ⟨w.heap.size + 1, 2, none⟩ = some (.int .i64 ha) := (by rw [hc1 _ _ (by first | omega | simp <;> omega)]; first | (simp [go_sem]; done) | assumption | (simp [go_sem, *]; done)); have r1_w_heap_size_1_2 : w1.frozen? ⟨w.heap.size + 1, 2, none⟩ = false := (by rw [hf1 _ _ (by first | omega | simp <;> omega)]; first | (simp [go_sem]; done) | assumption | (simp [go_sem, *]; done)))
 (have k1_w_heap_size_1_1_0 : w1.cell? ⟨w.heap.size + 1 + 1, 0, none⟩ = some (.int .i64 0) := (by rw [hc1 _ _ (by first | omega | simp <;> omega)]; first | (simp [go_sem]; done) | assumption | (simp [go_sem, *]; done)); have r1_w_heap_size_1_1_0 : w1.frozen? ⟨w.heap.size + 1 + 1, 0, none⟩ = false := (by rw [hf1 _ _ (by first | omega | simp <;> omega)]; first | (simp [go_sem]; done) | assumption | (simp [go_sem, *]; done)); have k1_w_heap_size_1_1_1 : w1.cell? ⟨w.heap.size + 1 + 1, 1, none⟩ = some (.int .i64 0) := (by rw [hc1 _ _ (by first | omega | simp <;> omega)]; first | (simp [go_sem]; done) | assumption | (simp [go_sem, *]; done)); have r1_w_heap_size_1_1_1 : w1.frozen? ⟨w.heap.size + 1 + 1, 1, none⟩ = false := (by rw [hf1 _ _ (by first | omega | simp <;> omega)]; first | (simp [go_sem]; done) | assumption | (simp [go_sem, *]; done)); have k1_w_heap_size_1_1_2 : w1.cell? ⟨w.heap.size + 1 + 1, 2, none⟩ = some (.int .i64 0) := (by rw [hc1 _ _ (by first | omega | simp <;> omega)]; first | (simp [go_sem]; done) | assumption | (simp [go_sem, *]; done)); have r1_w_heap_size_1_1_2 : w1.frozen? ⟨w.heap.size + 1 + 1, 2, none⟩ = false := (by rw [hf1 _ _ (by first | omega | simp <;> omega)]; first | (simp [go_sem]; done) | assumption | (simp [go_sem, *]; done)))
 clear hc1 hf1
 go_wp2_with fail
 generalize hW : World.alloc w1 _ = wd
 have HB1 := Lib.hid (show Below w.heap.size w wd from hW ▸ HW1.out.alloc (by omega) _)
 have zd : w1.heap.size < wd.heap.size := by rw [← hW]; simp
 have d0 : wd.cell? ⟨w1.heap.size, 0, none⟩ = some (.int .i64 dl) := by rw [← hW]; simp [go_sem]
 have d1 : wd.cell? ⟨w1.heap.size, 1, none⟩ = some (.int .i64 dh) := by rw [← hW]; simp [go_sem]
 have hb2 : Below w1.heap.size w1 wd := hW ▸ (Below.refl _ _).alloc (Nat.le_refl _) _
 have a0 := (hb2.cell (p := ⟨w.heap.size, 0, none⟩) z10).trans k1_w_heap_size_0
 have b0 := (hb2.cell (p := ⟨w.heap.size + 1 + 1, 0, none⟩) z12).trans k1_w_heap_size_1_1_0
 have b1 := (hb2.cell (p := ⟨w.heap.size + 1 + 1, 1, none⟩) z12).trans k1_w_heap_size_1_1_1
 have b2 := (hb2.cell (p := ⟨w.heap.size + 1 + 1, 2, none⟩) z12).trans k1_w_heap_size_1_1_2
 have c0 := (hb2.frozen (p := ⟨w.heap.size + 1 + 1, 0, none⟩) z12).trans r1_w_heap_size_1_1_0
 have c1 := (hb2.frozen (p := ⟨w.heap.size + 1 + 1, 1, none⟩) z12).trans r1_w_heap_size_1_1_1
 have c2 := (hb2.frozen (p := ⟨w.heap.size + 1 + 1, 2, none⟩) z12).trans r1_w_heap_size_1_1_2
 have z0 : w.heap.size < wd.heap.size := by omega
 have z2 : w.heap.size + 1 + 1 < wd.heap.size := by omega
 clear hW hb2 k1_w_heap_size_0 r1_w_heap_size_0 k1_w_heap_size_1 r1_w_heap_size_1 k1_w_heap_size_2 r1_w_heap_size_2 k1_w_heap_size_1_0 r1_w_heap_size_1_0 k1_w_heap_size_1_1 r1_w_heap_size_1_1 k1_w_heap_size_1_2 r1_w_heap_size_1_2 k1_w_heap_size_1_1_0 r1_w_heap_size_1_1_0 k1_w_heap_size_1_1_1 r1_w_heap_size_1_1_1 k1_w_heap_size_1_1_2 r1_w_heap_size_1_1_2
 have k0 := cell_regrown d0; have k1 := cell_regrown d1
 refine wp_below_tail 2 (by kernel_rfl) (by kernel_rfl) ?_
 repeat (quiet_step (first | exact CA.out _ _ _))
 refine wpQuiet_nil ?_
 intro wq hwq
 have hbq : Below wd.heap.size wd wq := by
  obtain ⟨p, hp⟩ := hwq
  rw [hp]; exact below_regrown _ _ _
 clear hwq k0 k1
 replace d0 := (hbq.cell (p := ⟨w1.heap.size, 0, none⟩) zd).trans d0
 replace d1 := (hbq.cell (p := ⟨w1.heap.size, 1, none⟩) zd).trans d1
 replace a0 := (hbq.cell (p := ⟨w.heap.size, 0, none⟩) z0).trans a0
 replace b0 := (hbq.cell (p := ⟨w.heap.size + 1 + 1, 0, none⟩) z2).trans b0
 replace b1 := (hbq.cell (p := ⟨w.heap.size + 1 + 1, 1, none⟩) z2).trans b1
 replace b2 := (hbq.cell (p := ⟨w.heap.size + 1 + 1, 2, none⟩) z2).trans b2
 replace c0 := (hbq.frozen (p := ⟨w.heap.size + 1 + 1, 0, none⟩) z2).trans c0
 replace c1 := (hbq.frozen (p := ⟨w.heap.size + 1 + 1, 1, none⟩) z2).trans c1
 replace c2 := (hbq.frozen (p := ⟨w.heap.size + 1 + 1, 2, none⟩) z2).trans c2
 have HWQ := Lib.hid (HB1.out.trans (hbq.mono (by omega)))
 have y0 : w.heap.size < wq.heap.size := by have := hbq.size; omega
 clear hbq HB1 HW1
 by_cases e : dl = -9223372036854775808 ∧ dh = 9223372036854775807
 ·have yes := Lib.hid (HD.out.2 e)
  obtain ⟨rfl, rfl⟩ := e
  go_wp2_with fail
  refine bodyPost_ret (v := .tuple #[.agg #[.int .i64 0, .int .i64 0, .int .i64 0], .int .i64 2]) ?_ rfl ⟨by have ye := yes.out; first | rfl | simp [ye], (by repeat' (first | with_reducible (first | exact HWQ.out | apply bR | apply bD | apply bN | apply bA | apply bS) | (simp; done) | (simp; omega) | omega))⟩
  simp [results, Tryd.results66, go_sem, *]
 ·have NE := Lib.hid (show ¬ ((⟨dl, dh⟩ : B) = ball) from fun h => e (HD.out.1 h))
  clear HD
  by_cases e1 : dl = -9223372036854775808
  ·have e2 : ¬ dh = 9223372036854775807 := fun h => e ⟨e1, h⟩
   subst e1
   have e3 := beq_no e2
   clear e e2
   go_wp2_with fail
   refine bodyPost_ret (v := .tuple #[.agg #[.int .i64 kb, .int .i64 (-9223372036854775808), .int .i64 dh], .int .i64 0]) ?_ rfl ⟨by have ne := NE.out; first | rfl | simp [ne], (by repeat' (first | with_reducible (first | exact HWQ.out | apply bR | apply bD | apply bN | apply bA | apply bS) | (simp; done) | (simp; omega) | omega))⟩
   simp [results, Tryd.results66, go_sem, *]
  ·have e3 := beq_no e1
   clear e e1
   go_wp2_with fail
   refine bodyPost_ret (v := .tuple #[.agg #[.int .i64 kb, .int .i64 dl, .int .i64 dh], .int .i64 0]) ?_ rfl ⟨by have ne := NE.out; first | rfl | simp [ne], (by repeat' (first | with_reducible (first | exact HWQ.out | apply bR | apply bD | apply bN | apply bA | apply bS) | (simp; done) | (simp; omega) | omega))⟩
   simp [results, Tryd.results66, go_sem, *]

theorem VCounts_any (c : Int) (a b : Wh) (ha : WOk a) (hb : WOk b) (w : World) :
  Calls Tryd.prog 66 #[.int .i64 c, .agg #[.int .i64 a.kind, .int .i64 a.b.lo, .int .i64 a.b.hi], .agg #[.int .i64 b.kind, .int .i64 b.b.lo, .int .i64 b.b.hi]] w fun e w' =>
   e = .returned (.tuple #[.agg #[.int .i64 (wcounts c a b).1.kind, .int .i64 (wcounts c a b).1.b.lo, .int .i64 (wcounts c a b).1.b.hi], .int .i64 (wcounts c a b).2]) ∧ Below w.heap.size w w' := by
 obtain ⟨ka, ⟨la, ga⟩⟩ := a
 obtain ⟨kb, ⟨lb, gb⟩⟩ := b
 obtain ⟨ka', oa⟩ := ha
 obtain ⟨kb', ob⟩ := hb
 simp only at ka' kb' oa ob
 unfold wcounts
 simp only
 by_cases h1 : kb = 0 ∨ (ka = 0 ∧ c ≠ 1)
 ·rw [if_pos h1]; exact VC_none c ka la ga kb lb gb h1 w
 rw [if_neg h1]
 by_cases h2 : c = 1
 ·subst h2; rw [if_pos rfl]; exact VC_mov ka la ga kb lb gb (by omega) w
 rw [if_neg h2]
 by_cases h3 : ka = 1 ∧ kb = 1
 ·rw [if_pos h3]; obtain ⟨rfl, rfl⟩ := h3; exact VC_num c la ga lb gb h2 oa ob w
 rw [if_neg h3]
 by_cases h4 : c = 2 ∧ ka = 1
 ·rw [if_pos h4]
  obtain ⟨rfl, rfl⟩ := h4
  unfold wshift
  simp only
  by_cases h5 : kb = 5
  ·rw [if_pos (by omega)]; exact VC_maybe la ga kb lb gb (by omega) h5 w
  ·rw [if_neg (by omega)]
   refine (VC_swap la ga kb lb gb (by omega) oa ob w).mono fun e w' he => ⟨he.1.trans ?_, he.2⟩
   split <;> rfl
 ·rw [if_neg h4]
  unfold wshift
  simp only
  by_cases h5 : kb ≠ 1 ∨ ka = 5 ∨ (c ≠ 2 ∧ c ≠ 3)
  ·rw [if_pos h5]; exact VC_arg c ka la ga kb lb gb (by omega) (by omega) h2 h3 h4 h5 w
  ·rw [if_neg h5]
   obtain rfl : kb = 1 := by omega
   have c23 : c = 2 ∨ c = 3 := by omega
   rcases c23 with rfl | rfl
   ·refine (VC_shift2 ka la ga lb gb (by omega) oa ob w).mono fun e w' he => ⟨he.1.trans ?_, he.2⟩
    split <;> rfl
   ·refine (VC_shift3 ka la ga lb gb (by omega) oa ob w).mono fun e w' he => ⟨he.1.trans ?_, he.2⟩
    split <;> rfl
end Go.Proofs.YtfpoicdfkjbknaaDoor.W

/-! part: V8 -/
namespace Go.Proofs.YtfpoicdfkjbknaaDoor.W
open Go.RowKit Go.Proofs.YtfpoicdfkjbknaaDoor.P
set_option linter.unusedSimpArgs false
set_option linter.unusedVariables false

/-- what a round's switch leaves -/
def VStepTo (n bs : Nat) (s : VS) (t : Step) (pc q : Nat) (er : Int) (s2 : VS) (w : World) : Prop :=
 (er = 0 ∧ pc ≤ q ∧ q + 1 < n ∧ VSOk s2 ∧ P.Img w bs 81 (simg wcell s2) ∧ s.step t pc = .go (some (s2, ((q + 1 : Nat) : Int))) none) ∨ (er ≠ 0 ∧ q = pc ∧ s.step t pc = .err er)
theorem VStepTo.pair {n bs : Nat} {s s2 : VS} {t : Step} {pc : Nat} {er : Int} {w : World} (hs : s.step t pc = if er ≠ 0 then .err er else .go (some (s2, (pc : Int) + 1)) none)
  (hn : pc + 1 < n) (hm : VSOk s2) (ha : P.Img w bs 81 (simg wcell s2)) : VStepTo n bs s t pc pc er s2 w := by
 by_cases he : er = 0
 ·exact .inl ⟨he, Nat.le_refl _, hn, hm, ha, by rw [hs, if_neg (by simp [he])]; push_cast; rfl⟩
 ·exact .inr ⟨he, rfl, by rw [hs, if_pos he]⟩
theorem but_set {b : Nat} {x w : World} (h : But b x w) {p : Addr} (hp : p.block = b ∨ x.heap.size ≤ p.block) (u : Value) : But b x (w.setCell p u) := h.setCell hp u
theorem VS.setReg_nat (s : VS) (d : Nat) (v : Wh) : s.setReg d v = { s with regs := upd s.regs d v } := rfl
theorem vstep_load (s : VS) (d sr : Nat) (r : Bool) (o nn pc : Int) : s.step ⟨25, d, sr, r, o, nn⟩ pc = if (s.load (s.regs sr) o).2 ≠ 0 then .err (s.load (s.regs sr) o).2 else .go (some ({ s with regs := upd s.regs d (s.load (s.regs sr) o).1 }, pc + 1)) none := by
 unfold VS.step; simp [VS.setReg]
theorem vstep_store (s : VS) (d sr : Nat) (r : Bool) (o nn pc : Int) : s.step ⟨26, d, sr, r, o, nn⟩ pc = if (s.store (s.regs d) o (s.second ⟨26, d, sr, r, o, nn⟩)).2 ≠ 0 then .err (s.store (s.regs d) o (s.second ⟨26, d, sr, r, o, nn⟩)).2 else .go (some ((s.store (s.regs d) o (s.second ⟨26, d, sr, r, o, nn⟩)).1, pc + 1)) none := by
 unfold VS.step; simp
theorem vstep_call (s : VS) (d sr : Nat) (r : Bool) (o nn pc : Int) : s.step ⟨27, d, sr, r, o, nn⟩ pc = if (s.call nn).2 ≠ 0 then .err (s.call nn).2 else .go (some ((s.call nn).1, pc + 1)) none := by
 unfold VS.step; simp
theorem vstep_neg (s : VS) (d sr : Nat) (r : Bool) (o nn pc : Int) : s.step ⟨13, d, sr, r, o, nn⟩ pc = if (wcounts 13 (s.regs d) (.num (bone 0))).2 ≠ 0 then .err (wcounts 13 (s.regs d) (.num (bone 0))).2 else .go (some ({ s with regs := upd s.regs d (wcounts 13 (s.regs d) (.num (bone 0))).1 }, pc + 1)) none := by
 unfold VS.step VS.operand; simp [VS.setReg]
theorem vstep_make (s : VS) (c : Int) (hc : c ≤ 12) (d sr : Nat) (r : Bool) (o nn pc : Int) : s.step ⟨c, d, sr, r, o, nn⟩ pc = if (wcounts c (s.regs d) (s.second ⟨c, d, sr, r, o, nn⟩)).2 ≠ 0 then .err (wcounts c (s.regs d) (s.second ⟨c, d, sr, r, o, nn⟩)).2 else .go (some ({ s with regs := upd s.regs d (wcounts c (s.regs d) (s.second ⟨c, d, sr, r, o, nn⟩)).1 }, pc + 1)) none := by
 unfold VS.step VS.operand
 simp only [show ¬ c = 28 by omega, show ¬ c = 14 by omega, show ¬ (15 ≤ c ∧ c ≤ 24) by omega, show ¬ c = 25 by omega, show ¬ c = 26 by omega, show ¬ c = 27 by omega, show ¬ c = 13 by omega, if_false]
 simp [VS.setReg]
theorem vstep_ask (s : VS) (c : Int) (hc : 15 ≤ c ∧ c ≤ 24) (d sr : Nat) (r : Bool) (o nn pc : Int) : s.step ⟨c, d, sr, r, o, nn⟩ pc = s.asks ⟨c, d, sr, r, o, nn⟩ pc := by
 unfold VS.step
 simp only [show ¬ c = 28 by omega, show ¬ c = 14 by omega, if_false]
 rw [if_pos hc]
theorem vstep_jump (s : VS) (d sr : Nat) (r : Bool) (o nn pc : Int) : s.step ⟨14, d, sr, r, o, nn⟩ pc = .go (some (s, pc + 1 + o)) none := by
 unfold VS.step; simp
theorem vstep_exit (s : VS) (d sr : Nat) (r : Bool) (o nn pc : Int) : s.step ⟨28, d, sr, r, o, nn⟩ pc = if (s.regs 0).kind = 1 then .done (s.regs 0).b else if (s.regs 0).kind = 0 then .err 8 else .err 1 := by
 unfold VS.step; simp
theorem wimg_looks {code : Value} {k : Wk} (l : Int) : ∀ j, j < 5 → upd (wimg code k) 1 (.int .i64 l) j = wimg code ⟨l, k.ends⟩ j := by
 intro j hj
 by_cases h : j = 1
 ·subst h; rw [upd_same]; rfl
 ·rw [upd_other h]; unfold wimg; simp only [h, if_false]

set_option maxRecDepth 100000 in
set_option maxHeartbeats 100000000 in
theorem VWalk_any (S : Nat → Step) (a : Addr) (n cap b : Nat) (hcap : n ≤ cap) (hn2 : n ≤ 200) (hab : a.block ≠ b) (HPS : ∀ j, j < n → StepOk n j (S j)) (HWR : ∀ j, j < n → (S j).wrong = 0) (HOFF : ∀ j, j < n → In64 (S j).off) : ∀ f, WalkC S a n cap b f := by
 intro f
 induction f using Nat.strongRecOn with
 | _ f ih =>
 intro s pc k w hs hpc hf hk0 hk1 hke hc hI
 have HW0 := Lib.hid (Below.refl w.heap.size w)
 have hlt := hI.lt (by omega)
 have IH := Lib.hid ih
 have HP := Lib.hid HPS
 have HWRG := Lib.hid HWR
 have HOFG := Lib.hid HOFF
 have HS := Lib.hid hs
 have HC := Lib.hid hc
 have HI := Lib.hid hI
 have HKE := Lib.hid hke
 obtain ⟨R, hR⟩ : ∃ R, vwalk S f s pc k = R := ⟨_, rfl⟩
 rw [hR]
 have HR := Lib.hid hR
 have hnb : w.heap.size ≠ b := by omega
 clear ih HPS HWR HOFF hs hc hI hke hR
 go_enter Tryd.func36, Tryd.ntmps36
 go_wp2_with fail
 go_loopw [2] (fun p wr => ∃ (pc' f' : Nat) (s' : VS) (k' : Wk), p = .int .i64 pc' ∧ pc' < n ∧ n ≤ pc' + f' ∧ f' ≤ f ∧ VSOk s' ∧ 0 ≤ k'.looks ∧ k'.looks ≤ 4000 ∧ (∀ e ∈ k'.ends, e.Ok) ∧ vwalk S f' s' pc' k' = R ∧ P.Img wr w.heap.size 81 (simg wcell s') ∧ P.Img wr b 5 (wimg (.slice (some a) n cap) k') ∧ But b w wr) (fun p _ => n - (intOf p).toNat)
 case atStart => exact ⟨pc, f, s, k, rfl, hpc, hf, Nat.le_refl _, HS.out, hk0, hk1, HKE.out, HR.out, Img.snew, HI.out.alloc _, (But.refl b w).alloc _⟩
 case round =>
  obtain ⟨pc', f', s', k', rfl, hpc', hf', hff, hs', hk0', hk1', hke', hrun, hIS, hIW, hB⟩ := hrel
  obtain ⟨f0', rfl⟩ : ∃ g, f' = g + 1 := ⟨f' - 1, by omega⟩
  obtain ⟨lk, en⟩ := k'
  simp only at hk0' hk1' hke'
  have hC' := HC.out.but hB hab
  obtain ⟨e0, e1, e2, e3, e4, e5⟩ := hC' pc' hpc'
  have l0 := block_lt_of_cell e0
  have ht := HP.out pc' hpc'
  have hw := HWRG.out pc' hpc'
  have hof := HOFG.out pc' hpc'
  rw [vwalk_succ, Int.toNat_natCast] at hrun
  generalize hT : S pc' = t at *
  obtain ⟨c, d, sr, r, o, nn⟩ := t
  obtain ⟨g1, g2, g3, g4⟩ := wrong_ok hw
  simp only at g1 g2 g3 g4 e0 e1 e2 e3 e4 e5 hrun
  have hin : In64 nn := ht.2.2
  obtain ⟨d, rfl⟩ := Int.eq_ofNat_of_zero_le g2.1
  obtain ⟨sr, rfl⟩ := Int.eq_ofNat_of_zero_le g2.2.2.1
  have dN : d < 11 := by omega
  have sN : sr < 11 := by omega
  have d1 : (d : Int) < 11 := by omega
  have s1 : (sr : Int) < 11 := by omega
  have pc1 : (pc' : Int) < n := by omega
  have pc2 : (pc' : Int) < 200 := by omega
  have pc0 : (0 : Int) ≤ pc' := by omega
  have lk1 : lk + 1 ≤ 4001 := by omega
  have c0 : wr.cell? ⟨b, 0, none⟩ = some (.slice (some a) n cap) := hIW.cell 0 (by omega)
  have c1 : wr.cell? ⟨b, 1, none⟩ = some (.int .i64 lk) := hIW.cell 1 (by omega)
  have w1' := hIW.free 1 (by omega)
  have zb : b < wr.heap.size := hIW.lt (by omega)
  have zs : w.heap.size < wr.heap.size := hIS.lt (by omega)
  have IW1 : P.Img (wr.setCell ⟨b, 1, none⟩ (.int .i64 (lk + 1))) b 5 (wimg (.slice (some a) n cap) ⟨lk + 1, en⟩) := (hIW.set (j := 1) (by omega) _).congr (wimg_looks _)
  have IS1 : P.Img (wr.setCell ⟨b, 1, none⟩ (.int .i64 (lk + 1))) w.heap.size 81 (simg wcell s') := hIS.other (by simpa using Ne.symm hnb) _
  have B1 : But b w (wr.setCell ⟨b, 1, none⟩ (.int .i64 (lk + 1))) := hB.setCell (.inl rfl) _
  have C1 : Cells (wr.setCell ⟨b, 1, none⟩ (.int .i64 (lk + 1))) a S n := hC'.but ((But.refl b wr).setCell (.inl rfl) _) hab
  have HRUN := Lib.hid hrun
  have HTE := Lib.hid hT
  have HS' := Lib.hid hs'
  have HKE' := Lib.hid hke'
  have HTT := Lib.hid ht
  have HWR := Lib.hid hw
  have HOF : Hid (In64 o) := hof
  have HNB := Lib.hid g4
  have HIW := Lib.hid IW1
  have HIS := Lib.hid IS1
  have HB := Lib.hid B1
  have HC1 := Lib.hid C1
  clear hrun hT hs' hke' ht hw hof g4 hIS hIW hB hC' IW1 IS1 B1 C1 e0 e1 e2 e3 e4 e5 l0
  go_upto_region 3 with fail
  have zb1 : b < (wr.setCell ⟨b, 1, none⟩ (.int .i64 (lk + 1))).heap.size := by simpa using zb
  have zs1 : w.heap.size < (wr.setCell ⟨b, 1, none⟩ (.int .i64 (lk + 1))).heap.size := by simpa using zs
  generalize wr.setCell ⟨b, 1, none⟩ (.int .i64 (lk + 1)) = w1 at *
  clear c0 c1 w1' zb zs
  obtain ⟨e0, e1, e2, e3, e4, e5⟩ := HC1.out pc' hpc'
  rw [HTE.out] at e0 e1 e2 e3 e4 e5
  simp only at e0 e1 e2 e3 e4 e5
  have l0 := block_lt_of_cell e0
  have c0 : w1.cell? ⟨b, 0, none⟩ = some (.slice (some a) n cap) := HIW.out.cell 0 (by omega)
  have c1 : w1.cell? ⟨b, 1, none⟩ = some (.int .i64 (lk + 1)) := HIW.out.cell 1 (by omega)
  by_cases hl : 4000 < lk + 1
  ·have hr2 := HRUN.out
   rw [if_pos hl] at hr2
   subst hr2
   as_aux_lemma =>
    go_wp2_with fail
    refine (At_any _ _ _).mono ?_
    rintro e w3 ⟨rfl, q0, q1, q2, hb3⟩
    have HB3 := Lib.hid hb3
    clear hb3
    go_wp2_with fail
    go_ret
    exact ⟨_, rfl, .inr (.inr ⟨show (4 : Int) ≠ 0 by decide, _, rfl, q0, q1⟩), HIW.out.later HB3.out zb1, HB.out.trans (But.of HB3.out)⟩
  have hr2 := HRUN.out
  rw [if_neg hl] at hr2
  have HRUN2 := Lib.hid hr2
  clear hr2 HRUN
  go_upto_block 2 with fail
  generalize hW : World.alloc w1 _ = wd
  have IT : P.Img wd w1.heap.size 6 (timg ⟨c, d, sr, r, o, nn⟩) := by
   rw [← hW]
   refine Img.of_cells (heap_alloc_new w1 _) (by rfl) fun j hj => ?_
   rcases j with _ | _ | _ | _ | _ | _ | j
   ·rfl
   ·rfl
   ·rfl
   ·rfl
   ·rfl
   ·rfl
   ·omega
  have hbd : Below w1.heap.size w1 wd := hW ▸ (Below.refl _ _).alloc (Nat.le_refl _) _
  clear hW
  obtain ⟨f0, f1, f2, f3, f4, f5⟩ := tcells IT
  simp only at f0 f1 f2 f3 f4 f5
  have HISd := Lib.hid (HIS.out.later hbd zs1)
  have HIWd := Lib.hid (HIW.out.later hbd zb1)
  have HCd := Lib.hid (HC1.out.later hbd)
  have HBd := Lib.hid (HB.out.trans (But.of hbd))
  have HITd := Lib.hid IT
  have zt := IT.lt (by omega)
  have zsd : w.heap.size < wd.heap.size := HISd.out.lt (by omega)
  have zbd : b < wd.heap.size := HIWd.out.lt (by omega)
  have nst : ¬ w.heap.size = w1.heap.size := by omega
  clear hbd IT HIS HIW HC1 HB e0 e1 e2 e3 e4 e5 c0 c1
  have hn1 : c = 28 ∨ pc' + 1 < n := by have := HTT.out.1; simp only at this; omega
  go_cut [2, 8] (fun p e wx => ∃ (q : Nat) (er : Int) (s2 : VS), p = .int .i64 q ∧ e = .int .i64 er ∧ P.Img wx b 5 (wimg (.slice (some a) n cap) ⟨lk + 1, en⟩) ∧ But b w wx ∧ VStepTo n w.heap.size s' ⟨c, d, sr, r, o, nn⟩ pc' q er s2 wx)
  case first =>
   obtain ⟨x0, x1, x2⟩ := rcells HISd.out dN
   obtain ⟨y0, y1, y2⟩ := rcells HISd.out sN
   obtain ⟨z0, z1, z2⟩ := rcells HISd.out (by omega : 0 < 11)
   simp only [Nat.zero_mul, Nat.zero_add] at z0 z1 z2
   have hcl : c = 28 ∨ c = 14 ∨ (15 ≤ c ∧ c ≤ 24) ∨ c = 25 ∨ c = 26 ∨ c = 27 ∨ c = 13 ∨ c ≤ 12 := by omega
   rcases hcl with rfl | rfl | hc | rfl | rfl | rfl | rfl | hc
   ·as_aux_lemma =>
     have HST := Lib.hid (vstep_exit s' d sr r o nn pc')
     by_cases e1 : (s'.regs 0).kind = 1
     ·have hs2 := HST.out
      rw [if_pos e1] at hs2
      have hr3 := HRUN2.out
      rw [hs2] at hr3
      have HR3 := Lib.hid hr3
      have t1 := vbeq_yes e1
      have t0 := vbeq_no (show (s'.regs 0).kind ≠ 0 by omega)
      clear hs2 hr3 e1
      have c2 : wd.cell? ⟨b, 2, none⟩ = some (.bool (!en.isEmpty)) := HIWd.out.cell 2 (by omega)
      have c3 : wd.cell? ⟨b, 3, none⟩ = some (.int .i64 (outOf en).lo) := HIWd.out.cell 3 (by omega)
      have c4 : wd.cell? ⟨b, 4, none⟩ = some (.int .i64 (outOf en).hi) := HIWd.out.cell 4 (by omega)
      have w2 := HIWd.out.free 2 (by omega); have w3 := HIWd.out.free 3 (by omega); have w4 := HIWd.out.free 4 (by omega)
      generalize s'.regs 0 = x at *
      obtain ⟨xk, ⟨xl, xh⟩⟩ := x
      simp only at t0 t1 z0 z1 z2
      cases en with
      | nil =>
       go_upto_region 16 with fail
       generalize hW : World.setCell (World.setCell wd _ _) _ _ = wa
       have IA : P.Img wa b 5 (upd (upd (wimg (.slice (some a) n cap) ⟨lk + 1, []⟩) 3 (.int .i64 xl)) 4 (.int .i64 xh)) := hW ▸ (HIWd.out.set (j := 3) (by omega) _).set (j := 4) (by omega) _
       have BA : But b wd wa := hW ▸ ((But.refl b wd).setCell (.inl rfl) _).setCell (.inl rfl) _
       clear hW
       have u3 : wa.cell? ⟨b, 3, none⟩ = some (.int .i64 xl) := IA.cell 3 (by omega)
       have u4 : wa.cell? ⟨b, 4, none⟩ = some (.int .i64 xh) := IA.cell 4 (by omega)
       have v1 := BA.cell z1 (show w.heap.size ≠ b by omega)
       have v2 := BA.cell z2 (show w.heap.size ≠ b by omega)
       have HIA := Lib.hid IA
       have HBA := Lib.hid (HBd.out.trans BA)
       have zba : b < wa.heap.size := IA.lt (by omega)
       have k0 := cell_regrown u3; have k1 := cell_regrown u4; have k2 := cell_regrown v1; have k3 := cell_regrown v2
       have CJ : ∀ dr os, Calls Tryd.prog 60 #[.agg #[.int .i64 xl, .int .i64 xh], .agg #[.int .i64 xl, .int .i64 xh]] (Go.Sort.grow (redrawn wa dr) os) fun e w'' => e = .returned (.agg #[.int .i64 (min xl xl), .int .i64 (max xh xh)]) ∧ ∃ p : Regrown, w'' = Go.Sort.grow (redrawn wa p.d) p.os := fun dr os => Calls.regrown_of (Join_any _ _ _ _ _)
       have HCJ := Lib.hid CJ
       clear IA BA CJ u3 u4 v1 v2 c2 c3 c4 w2 w3 w4
       refine wp_below_one 13 (by kernel_rfl) (by kernel_rfl) ?_
       repeat (quiet_step (exact HCJ.out _ _))
       refine wpQuiet_nil ?_
       intro wq hwq
       have hbq : Below wa.heap.size wa wq := by
        obtain ⟨p, hp⟩ := hwq
        rw [hp]; exact below_regrown _ _ _
       clear hwq k0 k1 k2 k3
       have IQ := HIA.out.later hbq zba
       have HIQ := Lib.hid IQ
       have HBQ := Lib.hid (HBA.out.trans (But.of hbq))
       have q2 := IQ.cell 2 (by omega); have q3 := IQ.cell 3 (by omega); have q4 := IQ.cell 4 (by omega)
       have p2 := IQ.free 2 (by omega); have p3 := IQ.free 3 (by omega); have p4 := IQ.free 4 (by omega)
       clear IQ hbq HCJ
       go_wp2_with fail
       refine NoPanic.normal ?_
       go_wp2_with fail
       go_ret
       rw [← HR3.out]
       refine ⟨_, rfl, .inl ⟨rfl, rfl, rfl⟩, ?_, ?_⟩
       ·have K := ((HIQ.out.set (j := 3) (by omega) (.int .i64 (xl))).set (j := 4) (by omega) (.int .i64 (xh))).set (j := 2) (by omega) (.bool true)
        refine Img.congr (I := upd (upd (upd (upd (upd (wimg (.slice (some a) n cap) ⟨lk + 1, []⟩) 3 (.int .i64 xl)) 4 (.int .i64 xh)) 3 (.int .i64 (xl))) 4 (.int .i64 (xh))) 2 (.bool true)) ?_ fun j hj => ?_
        ·first | exact K | exact K.drew
        ·show _ = wimg (.slice (some a) n cap) ⟨lk + 1, [] ++ [⟨xl, xh⟩]⟩ j
         rcases j with _ | _ | _ | _ | _ | j
         ·rfl
         ·rfl
         ·rfl
         ·simp [upd, wimg, outOf]
         ·simp [upd, wimg, outOf]
         ·omega
       ·(repeat' (first | with_reducible exact HBQ.out | with_reducible refine But.drew ?_ | with_reducible refine but_set ?_ ?_ _ | exact .inl rfl))
      | cons eh en =>
       go_upto_region 16 with fail
       have IA := HIWd.out
       have BA := But.refl b wd
       have u3 := c3
       have u4 := c4
       have v1 := z1
       have v2 := z2
       have HIA := Lib.hid IA
       have HBA := Lib.hid (HBd.out.trans BA)
       have zba : b < wd.heap.size := IA.lt (by omega)
       have k0 := cell_regrown u3; have k1 := cell_regrown u4; have k2 := cell_regrown v1; have k3 := cell_regrown v2
       have CJ : ∀ dr os, Calls Tryd.prog 60 #[.agg #[.int .i64 (outOf (eh :: en)).lo, .int .i64 (outOf (eh :: en)).hi], .agg #[.int .i64 xl, .int .i64 xh]] (Go.Sort.grow (redrawn wd dr) os) fun e w'' => e = .returned (.agg #[.int .i64 (min (outOf (eh :: en)).lo xl), .int .i64 (max (outOf (eh :: en)).hi xh)]) ∧ ∃ p : Regrown, w'' = Go.Sort.grow (redrawn wd p.d) p.os := fun dr os => Calls.regrown_of (Join_any _ _ _ _ _)
       have HCJ := Lib.hid CJ
       clear IA BA CJ u3 u4 v1 v2 c2 c3 c4 w2 w3 w4 z1 z2
       refine wp_below_one 13 (by kernel_rfl) (by kernel_rfl) ?_
       repeat (quiet_step (exact HCJ.out _ _))
       refine wpQuiet_nil ?_
       intro wq hwq
       have hbq : Below wd.heap.size wd wq := by
        obtain ⟨p, hp⟩ := hwq
        rw [hp]; exact below_regrown _ _ _
       clear hwq k0 k1 k2 k3
       have IQ := HIA.out.later hbq zba
       have HIQ := Lib.hid IQ
       have HBQ := Lib.hid (HBA.out.trans (But.of hbq))
       have q2 := IQ.cell 2 (by omega); have q3 := IQ.cell 3 (by omega); have q4 := IQ.cell 4 (by omega)
       have p2 := IQ.free 2 (by omega); have p3 := IQ.free 3 (by omega); have p4 := IQ.free 4 (by omega)
       clear IQ hbq HCJ
       go_wp2_with fail
       refine NoPanic.normal ?_
       go_wp2_with fail
       go_ret
       rw [← HR3.out]
       refine ⟨_, rfl, .inl ⟨rfl, rfl, rfl⟩, ?_, ?_⟩
       ·have K := ((HIQ.out.set (j := 3) (by omega) (.int .i64 (min (outOf (eh :: en)).lo xl))).set (j := 4) (by omega) (.int .i64 (max (outOf (eh :: en)).hi xh))).set (j := 2) (by omega) (.bool true)
        refine Img.congr (I := upd (upd (upd (wimg (.slice (some a) n cap) ⟨lk + 1, eh :: en⟩) 3 (.int .i64 (min (outOf (eh :: en)).lo xl))) 4 (.int .i64 (max (outOf (eh :: en)).hi xh))) 2 (.bool true)) ?_ fun j hj => ?_
        ·first | exact K | exact K.drew
        ·show _ = wimg (.slice (some a) n cap) ⟨lk + 1, (eh :: en) ++ [⟨xl, xh⟩]⟩ j
         rcases j with _ | _ | _ | _ | _ | j
         ·rfl
         ·rfl
         ·simp [upd, wimg]
         ·show Value.int .i64 _ = Value.int .i64 (outOf ((eh :: en) ++ [⟨xl, xh⟩])).lo; rw [outOf_snoc, if_neg (by simp)]; rfl
         ·show Value.int .i64 _ = Value.int .i64 (outOf ((eh :: en) ++ [⟨xl, xh⟩])).hi; rw [outOf_snoc, if_neg (by simp)]; rfl
         ·omega
       ·(repeat' (first | with_reducible exact HBQ.out | with_reducible refine But.drew ?_ | with_reducible refine but_set ?_ ?_ _ | exact .inl rfl))
     ·by_cases e0 : (s'.regs 0).kind = 0
      ·have hs2 := HST.out
       rw [if_neg e1, if_pos e0] at hs2
       have hr3 := HRUN2.out
       rw [hs2] at hr3
       subst hr3
       have t0 := vbeq_yes e0
       clear hs2 e0 e1
       go_wp2_with fail
       refine (At_any _ _ _).mono ?_
       rintro e w3 ⟨rfl, q0, q1, q2, hb3⟩
       have HB3 := Lib.hid hb3
       clear hb3
       go_wp2_with fail
       go_ret
       exact ⟨_, rfl, .inr (.inr ⟨show (8 : Int) ≠ 0 by decide, _, rfl, q0, q1⟩), HIWd.out.later HB3.out zbd, HBd.out.trans (But.of HB3.out)⟩
      ·have hs2 := HST.out
       rw [if_neg e1, if_neg e0] at hs2
       have hr3 := HRUN2.out
       rw [hs2] at hr3
       subst hr3
       have t0 := vbeq_no e0
       have t1 := vbeq_no e1
       clear hs2 e0 e1
       go_wp2_with fail
       refine (At_any _ _ _).mono ?_
       rintro e w3 ⟨rfl, q0, q1, q2, hb3⟩
       have HB3 := Lib.hid hb3
       clear hb3
       go_wp2_with fail
       go_ret
       exact ⟨_, rfl, .inr (.inr ⟨show (1 : Int) ≠ 0 by decide, _, rfl, q0, q1⟩), HIWd.out.later HB3.out zbd, HBd.out.trans (But.of HB3.out)⟩
   ·as_aux_lemma =>
     obtain ⟨o1, o2⟩ := HTT.out.2.1 (.inl rfl)
     simp only at o1 o2
     obtain ⟨o, rfl⟩ := Int.eq_ofNat_of_zero_le o1
     have HST := Lib.hid (vstep_jump s' d sr r o nn pc')
     go_wp2_with fail
     go_meet
     go_light
     refine ⟨pc' + o, 0, s', by go_num, rfl, HIWd.out, HBd.out, .inl ⟨rfl, by omega, by omega, HS'.out, HISd.out, ?_⟩⟩
     rw [HST.out]
     congr 3
     push_cast
     omega
   ·as_aux_lemma =>
     have t28 := vbeq_no (show c ≠ 28 by omega)
     have t14 := vbeq_no (show c ≠ 14 by omega)
     have t15 : 15 ≤ c := hc.1
     have t24 : c ≤ 24 := hc.2
     have HST := Lib.hid (vstep_ask s' c hc d sr r o nn pc')
     have CA := Lib.hid (VAsks_try S a n cap b f0' hcap hn2 hab (IH.out f0' (by omega)) HP.out s' pc' ⟨lk + 1, en⟩ wd HS'.out hpc' (by omega) (by show 0 ≤ lk + 1; omega) (by show lk + 1 ≤ 4000; omega) HKE'.out HCd.out HIWd.out (HP.out pc' hpc') (by rw [HTE.out]; exact HWR.out) (by rw [HTE.out]; exact hc))
     clear hc
     go_wp2_with (first | (go_at_call 18; refine (Asks_any _ _).mono ?_; rintro e w' ⟨rfl, rfl⟩; rw [asks_of]) | (with_reducible refine vl_load (by simp [go_sem]; done) 114 (.tmp 4) rfl w.heap.size 0 (by simp [go_sem]; done) (scells wcell s') _ (Img.scells HISd.out) Tryd.underlying114 rfl (size_state _) ?_))
     refine CA.out.mono ?_
     intro e w6 hp
     obtain ⟨v, rfl, hE, hI6, hB6⟩ := hp
     have HE := Lib.hid hE
     have HI6 := Lib.hid hI6
     have HB6 := Lib.hid hB6
     clear hE hI6 hB6
     go_wp2_with fail
     go_ret
     have hr3 := HRUN2.out
     rw [HST.out, ← HTE.out] at hr3
     rw [← hr3]
     exact ⟨_, rfl, HE.out, HI6.out, HBd.out.trans HB6.out⟩
   ·as_aux_lemma =>
     have k0 := cell_regrown f0; have k1 := cell_regrown f1; have k2 := cell_regrown f2; have k4 := cell_regrown f4
     have k5 := cell_regrown y0; have k6 := cell_regrown y1; have k7 := cell_regrown y2
     have ho : In64 o := HOF.out
     have cL : ∀ dr os, Calls Tryd.prog 62 #[.pointer (some ⟨w.heap.size, 0, none⟩), .agg #[.int .i64 (s'.regs sr).kind, .int .i64 (s'.regs sr).b.lo, .int .i64 (s'.regs sr).b.hi], .int .i64 o] (Go.Sort.grow (redrawn wd dr) os) fun e w'' =>
      e = .returned (.tuple #[.agg #[.int .i64 (s'.load (s'.regs sr) o).1.kind, .int .i64 (s'.load (s'.regs sr) o).1.b.lo, .int .i64 (s'.load (s'.regs sr) o).1.b.hi], .int .i64 (s'.load (s'.regs sr) o).2]) ∧ ∃ p : Regrown, w'' = Go.Sort.grow (redrawn wd p.d) p.os := fun dr os => Calls.regrown_of (VLoad_any w.heap.size s' _ (HISd.out.later (below_regrown wd dr os) zsd) (s'.regs sr) (HS'.out.1 sr) o ho)
     have hst := vstep_load s' d sr r o nn pc'
     have hml := HS'.out.load (HS'.out.1 sr) o
     generalize s'.load (s'.regs sr) o = L at *
     obtain ⟨⟨lk2, ⟨ln, lc⟩⟩, le⟩ := L
     have HST := Lib.hid hst
     have HML := Lib.hid hml
     have CL := Lib.hid cL
     clear hst hml cL ho
     go_wp2_with (go_at_call 18; refine (Asks_any _ _).mono ?_; rintro e w' ⟨rfl, rfl⟩; rw [asks_of])
     refine wp_below_one 15 (by kernel_rfl) (by kernel_rfl) ?_
     repeat (quiet_step (first | exact CL.out _ _))
     refine wpQuiet_nil ?_
     intro wq hwq
     have hbq : Below wd.heap.size wd wq := by
      obtain ⟨p, hp⟩ := hwq
      rw [hp]; exact below_regrown _ _ _
     clear hwq
     clear k0 k1 k2 k4 k5 k6 k7 f0 f1 f2 f3 f4 f5 x0 x1 x2 y0 y1 y2 z0 z1 z2
     have IQ := HISd.out.later hbq zsd
     have HIQ := Lib.hid IQ
     have HWQ := Lib.hid (HIWd.out.later hbq zbd)
     have HBQ := Lib.hid (HBd.out.trans (But.of hbq))
     have q0 := IQ.cell (d * 3) (by omega); have q1 := IQ.cell (d * 3 + 1) (by omega); have q2 := IQ.cell (d * 3 + 2) (by omega)
     have p0 := IQ.free (d * 3) (by omega); have p1 := IQ.free (d * 3 + 1) (by omega); have p2 := IQ.free (d * 3 + 2) (by omega)
     clear IQ hbq
     go_wp2_with fail
     refine NoPanic.normal ?_
     go_wp2_with fail
     go_meet
     go_light
     refine ⟨pc', le, { s' with regs := upd s'.regs d ⟨lk2, ⟨ln, lc⟩⟩ }, rfl, rfl, ?_, ?_, ?_⟩
     ·(repeat' (first | with_reducible exact HWQ.out | with_reducible refine Img.drew ?_ | with_reducible refine Img.other ?_ ?_ _ | (simp; done) | (simp; omega) | omega))
     ·(repeat' (first | with_reducible exact HBQ.out | with_reducible refine But.drew ?_ | with_reducible refine but_set ?_ ?_ _ | (simp; done) | (simp; omega) | omega))
     ·refine VStepTo.pair HST.out (by omega) (HS'.out.setReg' d HML.out) ?_
      have K := (((HIQ.out.set (j := d * 3) (by omega) (wcell ⟨lk2, ⟨ln, lc⟩⟩ 0)).set (j := d * 3 + 1) (by omega) (wcell ⟨lk2, ⟨ln, lc⟩⟩ 1)).set (j := d * 3 + 2) (by omega) (wcell ⟨lk2, ⟨ln, lc⟩⟩ 2)).congr (simg_setreg dN ⟨lk2, ⟨ln, lc⟩⟩)
      first | with_reducible exact K | with_reducible exact K.drew | exact K
   ·as_aux_lemma =>
     have k0 := cell_regrown f0; have k1 := cell_regrown f1; have k2 := cell_regrown f2; have k3 := cell_regrown f3; have k4 := cell_regrown f4; have k8 := cell_regrown f5
     have k5 := cell_regrown x0; have k6 := cell_regrown x1; have k7 := cell_regrown x2
     have hst := vstep_store s' d sr r o nn pc'
     have hx := HS'.out.second (t := ⟨26, d, sr, r, o, nn⟩) hin
     have cL : ∀ dr os, Calls Tryd.prog 64 #[.pointer (some ⟨w.heap.size, 0, none⟩), .agg #[.int .i64 26, .int .i64 d, .int .i64 sr, .bool r, .int .i64 o, .int .i64 nn]] (Go.Sort.grow (redrawn wd dr) os) fun e w'' =>
      e = .returned (.agg #[.int .i64 (s'.second ⟨26, d, sr, r, o, nn⟩).kind, .int .i64 (s'.second ⟨26, d, sr, r, o, nn⟩).b.lo, .int .i64 (s'.second ⟨26, d, sr, r, o, nn⟩).b.hi]) ∧ ∃ p : Regrown, w'' = Go.Sort.grow (redrawn wd p.d) p.os := fun dr os => Calls.regrown_of (VSecond_any w.heap.size s' _ (HISd.out.later (below_regrown wd dr os) zsd) 26 d sr r o nn sN)
     generalize s'.second ⟨26, d, sr, r, o, nn⟩ = x at *
     have hml := HS'.out.store (s'.regs d) o hx
     have HST := Lib.hid hst
     have HML := Lib.hid hml
     have CL := Lib.hid cL
     clear hst hml cL hx
     go_wp2_with (go_at_call 18; refine (Asks_any _ _).mono ?_; rintro e w' ⟨rfl, rfl⟩; rw [asks_of])
     refine wp_below_tail 9 (by kernel_rfl) (by kernel_rfl) ?_
     repeat (quiet_step (first | exact CL.out _ _))
     refine wpQuiet_nil ?_
     intro wq hwq
     have hbq : Below wd.heap.size wd wq := by
      obtain ⟨p, hp⟩ := hwq
      rw [hp]; exact below_regrown _ _ _
     clear hwq
     have HISq := Lib.hid (HISd.out.later hbq zsd)
     have HWQ := Lib.hid (HIWd.out.later hbq zbd)
     have HBQ := Lib.hid (HBd.out.trans (But.of hbq))
     clear hbq k0 k1 k2 k3 k4 k5 k6 k7 k8 f0 f1 f2 f3 f4 f5 x0 x1 x2 y0 y1 y2 z0 z1 z2
     go_wp2_with fail
     refine (VStore_any w.heap.size s' _ HISq.out (s'.regs d) (HS'.out.1 d) o HOF.out x).mono ?_
     rintro e w3 ⟨rfl, hM3, hb3⟩
     have HW3 := Lib.hid (hb3.img HWQ.out (by omega) (Ne.symm hnb))
     have HB3 := Lib.hid (but_new HBQ.out hb3 (Nat.le_refl _))
     have HM3 := Lib.hid hM3
     clear hb3 hM3
     generalize s'.store (s'.regs d) o x = L at *
     obtain ⟨M2, le⟩ := L
     go_wp2_with fail
     go_meet
     go_light
     exact ⟨pc', le, M2, rfl, rfl, HW3.out, HB3.out, VStepTo.pair HST.out (by omega) HML.out HM3.out⟩
   ·as_aux_lemma =>
     have hnn : 1 ≤ nn ∧ nn ≤ 3 := call_num HNB.out rfl
     have hst := vstep_call s' d sr r o nn pc'
     have hml := HS'.out.call nn
     have HST := Lib.hid hst
     have HML := Lib.hid hml
     have HNN := Lib.hid hnn
     clear hst hml hnn
     go_wp2_with (go_at_call 18; refine (Asks_any _ _).mono ?_; rintro e w' ⟨rfl, rfl⟩; rw [asks_of])
     refine (VCall_any w.heap.size s' _ HISd.out nn HNN.out).mono ?_
     rintro e w3 ⟨rfl, hM3, hb3⟩
     have HW3 := Lib.hid (hb3.img HIWd.out (by omega) (Ne.symm hnb))
     have HB3 := Lib.hid (but_new HBd.out hb3 (Nat.le_refl _))
     have HM3 := Lib.hid hM3
     clear hb3 hM3
     generalize s'.call nn = L at *
     obtain ⟨M2, le⟩ := L
     go_wp2_with fail
     go_meet
     go_light
     exact ⟨pc', le, M2, rfl, rfl, HW3.out, HB3.out, VStepTo.pair HST.out (by omega) HML.out HM3.out⟩
   ·as_aux_lemma =>
     have k0 := cell_regrown f0; have k1 := cell_regrown f1
     have k5 := cell_regrown x0; have k6 := cell_regrown x1; have k7 := cell_regrown x2
     have cO : ∀ dr os, Calls Tryd.prog 35 #[.int .i64 0] (Go.Sort.grow (redrawn wd dr) os) fun e w'' => e = .returned (.agg #[.int .i64 0, .int .i64 0]) ∧ ∃ p : Regrown, w'' = Go.Sort.grow (redrawn wd p.d) p.os := fun dr os => Calls.regrown_of (One_any 0 _)
     have cN : ∀ dr os, Calls Tryd.prog 67 #[.agg #[.int .i64 0, .int .i64 0]] (Go.Sort.grow (redrawn wd dr) os) fun e w'' => e = .returned (.agg #[.int .i64 1, .int .i64 0, .int .i64 0]) ∧ ∃ p : Regrown, w'' = Go.Sort.grow (redrawn wd p.d) p.os := fun dr os => Calls.regrown_of (VNumber_any 0 0 _)
     have cL : ∀ dr os, Calls Tryd.prog 66 #[.int .i64 13, .agg #[.int .i64 (s'.regs d).kind, .int .i64 (s'.regs d).b.lo, .int .i64 (s'.regs d).b.hi], .agg #[.int .i64 1, .int .i64 0, .int .i64 0]] (Go.Sort.grow (redrawn wd dr) os) fun e w'' =>
      e = .returned (.tuple #[.agg #[.int .i64 (wcounts 13 (s'.regs d) (.num (bone 0))).1.kind, .int .i64 (wcounts 13 (s'.regs d) (.num (bone 0))).1.b.lo, .int .i64 (wcounts 13 (s'.regs d) (.num (bone 0))).1.b.hi], .int .i64 (wcounts 13 (s'.regs d) (.num (bone 0))).2]) ∧ ∃ p : Regrown, w'' = Go.Sort.grow (redrawn wd p.d) p.os := fun dr os => Calls.regrown_of (VCounts_any 13 (s'.regs d) (.num (bone 0)) (HS'.out.1 d) (WOk.num (bone_ok in64_0)) _)
     have hst := vstep_neg s' d sr r o nn pc'
     have hml := wcounts_ok (c := 13) (HS'.out.1 d) (WOk.num (bone_ok in64_0))
     generalize wcounts 13 (s'.regs d) (.num (bone 0)) = L at *
     obtain ⟨⟨lk2, ⟨ln, lc⟩⟩, le⟩ := L
     have HST := Lib.hid hst
     have HML := Lib.hid hml
     have CL := Lib.hid cL
     have CO := Lib.hid cO
     have CN := Lib.hid cN
     clear hst hml cL cO cN
     go_wp2_with (go_at_call 18; refine (Asks_any _ _).mono ?_; rintro e w' ⟨rfl, rfl⟩; rw [asks_of])
     refine wp_below_one 17 (by kernel_rfl) (by kernel_rfl) ?_
     repeat (quiet_step (first | exact CL.out _ _ | exact CO.out _ _ | exact CN.out _ _))
     refine wpQuiet_nil ?_
     intro wq hwq
     have hbq : Below wd.heap.size wd wq := by
      obtain ⟨p, hp⟩ := hwq
      rw [hp]; exact below_regrown _ _ _
     clear hwq
     clear k0 k1 k5 k6 k7 f0 f1 f2 f3 f4 f5 x0 x1 x2 y0 y1 y2 z0 z1 z2
     have IQ := HISd.out.later hbq zsd
     have HIQ := Lib.hid IQ
     have HWQ := Lib.hid (HIWd.out.later hbq zbd)
     have HBQ := Lib.hid (HBd.out.trans (But.of hbq))
     have q0 := IQ.cell (d * 3) (by omega); have q1 := IQ.cell (d * 3 + 1) (by omega); have q2 := IQ.cell (d * 3 + 2) (by omega)
     have p0 := IQ.free (d * 3) (by omega); have p1 := IQ.free (d * 3 + 1) (by omega); have p2 := IQ.free (d * 3 + 2) (by omega)
     clear IQ hbq
     go_wp2_with fail
     refine NoPanic.normal ?_
     go_wp2_with fail
     go_meet
     go_light
     refine ⟨pc', le, { s' with regs := upd s'.regs d ⟨lk2, ⟨ln, lc⟩⟩ }, rfl, rfl, ?_, ?_, ?_⟩
     ·(repeat' (first | with_reducible exact HWQ.out | with_reducible refine Img.drew ?_ | with_reducible refine Img.other ?_ ?_ _ | (simp; done) | (simp; omega) | omega))
     ·(repeat' (first | with_reducible exact HBQ.out | with_reducible refine But.drew ?_ | with_reducible refine but_set ?_ ?_ _ | (simp; done) | (simp; omega) | omega))
     ·refine VStepTo.pair HST.out (by omega) (HS'.out.setReg' d HML.out) ?_
      have K := (((HIQ.out.set (j := d * 3) (by omega) (wcell ⟨lk2, ⟨ln, lc⟩⟩ 0)).set (j := d * 3 + 1) (by omega) (wcell ⟨lk2, ⟨ln, lc⟩⟩ 1)).set (j := d * 3 + 2) (by omega) (wcell ⟨lk2, ⟨ln, lc⟩⟩ 2)).congr (simg_setreg dN ⟨lk2, ⟨ln, lc⟩⟩)
      first | with_reducible exact K | with_reducible exact K.drew | exact K
   ·as_aux_lemma =>
     have pn : pc' + 1 < n := by omega
     have k0 := cell_regrown f0; have k1 := cell_regrown f1; have k2 := cell_regrown f2; have k3 := cell_regrown f3; have k4 := cell_regrown f4; have k8 := cell_regrown f5
     have k5 := cell_regrown x0; have k6 := cell_regrown x1; have k7 := cell_regrown x2
     have t28 := vbeq_no (show c ≠ 28 by omega); have t14 := vbeq_no (show c ≠ 14 by omega); have t25 := vbeq_no (show c ≠ 25 by omega); have t26 := vbeq_no (show c ≠ 26 by omega); have t27 := vbeq_no (show c ≠ 27 by omega); have t13 := vbeq_no (show c ≠ 13 by omega)
     have t15 : decide (15 ≤ c) = false := by simp; omega
     have hst := vstep_make s' c hc d sr r o nn pc'
     have hx := HS'.out.second (t := ⟨c, d, sr, r, o, nn⟩) hin
     have cS : ∀ dr os, Calls Tryd.prog 64 #[.pointer (some ⟨w.heap.size, 0, none⟩), .agg #[.int .i64 c, .int .i64 d, .int .i64 sr, .bool r, .int .i64 o, .int .i64 nn]] (Go.Sort.grow (redrawn wd dr) os) fun e w'' =>
      e = .returned (.agg #[.int .i64 (s'.second ⟨c, d, sr, r, o, nn⟩).kind, .int .i64 (s'.second ⟨c, d, sr, r, o, nn⟩).b.lo, .int .i64 (s'.second ⟨c, d, sr, r, o, nn⟩).b.hi]) ∧ ∃ p : Regrown, w'' = Go.Sort.grow (redrawn wd p.d) p.os := fun dr os => Calls.regrown_of (VSecond_any w.heap.size s' _ (HISd.out.later (below_regrown wd dr os) zsd) c d sr r o nn sN)
     generalize s'.second ⟨c, d, sr, r, o, nn⟩ = x at *
     have cL : ∀ dr os, Calls Tryd.prog 66 #[.int .i64 c, .agg #[.int .i64 (s'.regs d).kind, .int .i64 (s'.regs d).b.lo, .int .i64 (s'.regs d).b.hi], .agg #[.int .i64 x.kind, .int .i64 x.b.lo, .int .i64 x.b.hi]] (Go.Sort.grow (redrawn wd dr) os) fun e w'' =>
      e = .returned (.tuple #[.agg #[.int .i64 (wcounts c (s'.regs d) x).1.kind, .int .i64 (wcounts c (s'.regs d) x).1.b.lo, .int .i64 (wcounts c (s'.regs d) x).1.b.hi], .int .i64 (wcounts c (s'.regs d) x).2]) ∧ ∃ p : Regrown, w'' = Go.Sort.grow (redrawn wd p.d) p.os := fun dr os => Calls.regrown_of (VCounts_any c (s'.regs d) x (HS'.out.1 d) hx _)
     have hml := wcounts_ok (c := c) (HS'.out.1 d) hx
     generalize wcounts c (s'.regs d) x = L at *
     obtain ⟨⟨lk2, ⟨ln, lc⟩⟩, le⟩ := L
     have CS := Lib.hid cS
     clear cS hx hc
     have HST := Lib.hid hst
     have HML := Lib.hid hml
     have CL := Lib.hid cL
     clear hst hml cL
     go_wp2_with (go_at_call 18; refine (Asks_any _ _).mono ?_; rintro e w' ⟨rfl, rfl⟩; rw [asks_of])
     refine wp_below_one 17 (by kernel_rfl) (by kernel_rfl) ?_
     repeat (quiet_step (first | exact CL.out _ _ | exact CS.out _ _))
     refine wpQuiet_nil ?_
     intro wq hwq
     have hbq : Below wd.heap.size wd wq := by
      obtain ⟨p, hp⟩ := hwq
      rw [hp]; exact below_regrown _ _ _
     clear hwq
     clear k0 k1 k2 k3 k4 k5 k6 k7 k8 f0 f1 f2 f3 f4 f5 x0 x1 x2 y0 y1 y2 z0 z1 z2
     have IQ := HISd.out.later hbq zsd
     have HIQ := Lib.hid IQ
     have HWQ := Lib.hid (HIWd.out.later hbq zbd)
     have HBQ := Lib.hid (HBd.out.trans (But.of hbq))
     have q0 := IQ.cell (d * 3) (by omega); have q1 := IQ.cell (d * 3 + 1) (by omega); have q2 := IQ.cell (d * 3 + 2) (by omega)
     have p0 := IQ.free (d * 3) (by omega); have p1 := IQ.free (d * 3 + 1) (by omega); have p2 := IQ.free (d * 3 + 2) (by omega)
     clear IQ hbq
     go_wp2_with fail
     refine NoPanic.normal ?_
     go_wp2_with fail
     go_meet
     go_light
     refine ⟨pc', le, { s' with regs := upd s'.regs d ⟨lk2, ⟨ln, lc⟩⟩ }, rfl, rfl, ?_, ?_, ?_⟩
     ·(repeat' (first | with_reducible exact HWQ.out | with_reducible refine Img.drew ?_ | with_reducible refine Img.other ?_ ?_ _ | (simp; done) | (simp; omega) | omega))
     ·(repeat' (first | with_reducible exact HBQ.out | with_reducible refine But.drew ?_ | with_reducible refine but_set ?_ ?_ _ | (simp; done) | (simp; omega) | omega))
     ·refine VStepTo.pair HST.out pn (HS'.out.setReg' d HML.out) ?_
      have K := (((HIQ.out.set (j := d * 3) (by omega) (wcell ⟨lk2, ⟨ln, lc⟩⟩ 0)).set (j := d * 3 + 1) (by omega) (wcell ⟨lk2, ⟨ln, lc⟩⟩ 1)).set (j := d * 3 + 2) (by omega) (wcell ⟨lk2, ⟨ln, lc⟩⟩ 2)).congr (simg_setreg dN ⟨lk2, ⟨ln, lc⟩⟩)
      first | with_reducible exact K | with_reducible exact K.drew | exact K
  case rest =>
   as_aux_lemma =>
    obtain ⟨q, er, s2, rfl, rfl, hW2, hB2, hS2⟩ := hcut
    obtain ⟨wx, hwx⟩ : ∃ x, x = wc := ⟨_, rfl⟩; subst hwx
    have HW2 := Lib.hid hW2
    have HB2 := Lib.hid hB2
    have zb2 : b < wx.heap.size := hW2.lt (by omega)
    clear hW2 hB2
    rcases hS2 with ⟨rfl, hq1, hq2, hmo, hma, hst⟩ | ⟨he, hq, hst⟩
    ·have hr2 := HRUN2.out
     rw [hst, ways_one (fun h0 => (vwalk_keeps HP.out f0' s2 _ ⟨lk + 1, en⟩ hmo (by omega) (by exact_mod_cast hq2) (by push_cast; omega)).place h0)] at hr2
     have HR2 := Lib.hid hr2
     have HMA := Lib.hid hma
     have HMO := Lib.hid hmo
     clear hr2 hst hma hmo
     go_wp2_with fail
     go_roundw
     case rel =>
      go_light
      exact ⟨q + 1, f0', s2, ⟨lk + 1, en⟩, by go_num, hq2, by omega, by omega, HMO.out, by show 0 ≤ lk + 1; omega, by show lk + 1 ≤ 4000; omega, HKE'.out, HR2.out, HMA.out, HW2.out, HB2.out⟩
     case measure => simp [intOf]; omega
    ·subst hq
     have hr2 := HRUN2.out
     rw [hst] at hr2
     subst hr2
     have HE := Lib.hid he
     have t1 := vbne_yes he
     have t0 := vbeq_no he
     clear hst he
     go_wp2_with fail
     refine (At_any _ _ _).mono ?_
     rintro e w3 ⟨rfl, q0, q1, q2, hb3⟩
     have HB3 := Lib.hid hb3
     clear hb3
     go_wp2_with fail
     go_ret
     exact ⟨_, rfl, .inr (.inr ⟨HE.out, _, rfl, q0, q1⟩), HW2.out.later HB3.out zb2, HB2.out.trans (But.of HB3.out)⟩
end Go.Proofs.YtfpoicdfkjbknaaDoor.W

/-! part: V9 -/
namespace Go.Proofs.YtfpoicdfkjbknaaDoor.W
open Go.RowKit Go.Proofs.YtfpoicdfkjbknaaDoor.P
set_option linter.unusedSimpArgs false
set_option linter.unusedVariables false

theorem imgOf {w : World} {b n : Nat} {c : Array Value} {t : TypeId} {I : Nat → Value} (hb : w.heap[b]? = some (.cells c t (0, 0))) (e : c.toList = (List.range n).map I) : Img w b n I := by
 have hs : c.size = n := by rw [← Array.length_toList, e]; simp
 refine Img.of_cells hb hs.symm fun j hj => ?_
 rw [← Array.getElem?_toList, e]
 simp [hj]
theorem ErrIs.set0 {w : World} {v u : Value} {n p : Int} {g i : Nat} (h : ErrIs w v n p) (h0 : w.cell? ⟨g, 0, none⟩ = some (.int .i64 0)) : ErrIs (w.setCell ⟨g, i, none⟩ u) v n p := by
 rcases h with h | h | ⟨hne, b, hv, e0, e1⟩
 ·exact .inl h
 ·exact .inr (.inl h)
 ·have hbg : b ≠ g := by
   rintro rfl
   rw [e0] at h0
   simp at h0
   exact hne h0
  have B := (But.refl g w).setCell (p := ⟨g, i, none⟩) (.inl rfl) u
  exact .inr (.inr ⟨hne, b, hv, B.cell e0 hbg, B.cell e1 hbg⟩)
def vz : VS := ⟨fun _ => .nil, fun _ => .nil⟩
def vz1 : VS := { vz with regs := upd vz.regs 1 ⟨2, bone 0⟩ }
theorem vz_init : ({ vz1 with regs := upd vz1.regs 10 ⟨3, bone 0⟩ } : VS) = VS.init := by
 unfold VS.init vz1 vz
 simp only
 congr 1
 funext j
 unfold upd
 by_cases h1 : j = 1
 ·subst h1; rfl
 ·by_cases h2 : j = 10
  ·subst h2; rfl
  ·rw [if_neg h2, if_neg h1, if_neg h1, if_neg h2]
/-- what Verify gives -/
def VerIs (w : World) (r : (Int × Int) × P.B) (e : Ending) (w' : World) : Prop := ∃ v, e = .returned (.tuple #[.agg #[.int .i64 r.2.lo, .int .i64 r.2.hi], v]) ∧ ErrIs w' v r.1.1 r.1.2 ∧ Below w.heap.size w w'

set_option maxRecDepth 100000 in
set_option maxHeartbeats 4000000 in
theorem Verify_err (l : Value) (er p : Int) (he : er ≠ 0) (w : World) (hch : ∀ w', Below w.heap.size w w' → Calls Tryd.prog 17 #[l] w' fun e w'' => ∃ v, e = .returned v ∧ ErrIs w'' v er p ∧ Below w'.heap.size w' w'') :
  Calls Tryd.prog 13 #[l] w (VerIs w ((er, p), bnil)) := by
 have HW0 := Lib.hid (Below.refl w.heap.size w)
 have HCH := Lib.hid hch
 clear hch
 go_enter Tryd.func13, Tryd.ntmps13
 go_wp2_with fail
 refine (HCH.out _ (by repeat' (first | with_reducible (first | exact HW0.out | apply bR | apply bD | apply bN | apply bA | apply bS) | (simp; done) | (simp; omega) | omega))).mono ?_
 rintro e w1 ⟨v, rfl, hE, hb⟩
 obtain ⟨ty, xv, rfl⟩ := hE.noIface he
 obtain ⟨hc1, hf1⟩ := bcell hb
 have hz1 := hb.size
 simp at hz1
 have HW1 := Lib.hid (show Below w.heap.size w w1 from Below.trans (by repeat' (first | with_reducible (first | exact HW0.out | apply bR | apply bD | apply bN | apply bA | apply bS) | (simp; done) | (simp; omega) | omega)) (hb.mono (by first | omega | simp <;> omega)))
 have HE := Lib.hid hE
 clear hb hE
 have z10 : w.heap.size < w1.heap.size := by omega
 (have k1_w_heap_size_0 : w1.cell? ⟨w.heap.size, 0, none⟩ = some (.int .i64 0) := (by rw [hc1 _ _ (by first | omega | simp <;> omega)]; first | (simp [go_sem]; done) | assumption | (simp [go_sem, *]; done)); have r1_w_heap_size_0 : w1.frozen? ⟨w.heap.size, 0, none⟩ = false := (by rw [hf1 _ _ (by first | omega | simp <;> omega)]; first | (simp [go_sem]; done) | assumption | (simp [go_sem, *]; done)); have k1_w_heap_size_1 : w1.cell? ⟨w.heap.size, 1, none⟩ = some (.int .i64 0) := (by rw [hc1 _ _ (by first | omega | simp <;> omega)]; first | (simp [go_sem]; done) | assumption | (simp [go_sem, *]; done)); have r1_w_heap_size_1 : w1.frozen? ⟨w.heap.size, 1, none⟩ = false := (by rw [hf1 _ _ (by first | omega | simp <;> omega)]; first | (simp [go_sem]; done) | assumption | (simp [go_sem, *]; done)))
 clear hc1 hf1
 have HNE := Lib.hid he
 clear he
 go_wp2_with fail
 refine bodyPost_ret (v := .tuple #[.agg #[.int .i64 0, .int .i64 0], .iface ty xv]) ?_ rfl ⟨_, rfl, ?_, (by repeat' (first | with_reducible (first | exact HW1.out | apply bR | apply bD | apply bN | apply bA | apply bS) | (simp; done) | (simp; omega) | omega))⟩
 ·simp [results, Tryd.results13, go_sem, *]
 ·exact (HE.out.set0 k1_w_heap_size_0).set0 (World.cell?_setCell_same w1 _ _ k1_w_heap_size_0)

set_option maxRecDepth 100000 in
set_option maxHeartbeats 16000000 in
theorem Verify_go (a : Addr) (n cap : Nat) (S : Nat → Step) (hn : 1 ≤ n) (hn2 : n ≤ 200) (hcap : n ≤ cap) (w : World) (hs : Cells w a S n) (hP : ProgOk S n)
  (hch : ∀ w', Below w.heap.size w w' → Calls Tryd.prog 17 #[.slice (some a) n cap] w' fun e w'' => ∃ v, e = .returned v ∧ ErrIs w'' v 0 (-1) ∧ Below w'.heap.size w' w'') :
  Calls Tryd.prog 13 #[.slice (some a) n cap] w (VerIs w (if (vrun S n).1.1 ≠ 0 then ((vrun S n).1, bnil) else ((0, -1), outOf (vrun S n).2.ends))) := by
 have HW0 := Lib.hid (Below.refl w.heap.size w)
 obtain ⟨R, hR⟩ : ∃ R, (if (vrun S n).1.1 ≠ 0 then ((vrun S n).1, bnil) else ((0, -1), outOf (vrun S n).2.ends)) = R := ⟨_, rfl⟩
 rw [hR]
 have HR := Lib.hid hR
 clear hR
 have HP := Lib.hid hP
 clear hP
 have HCH := Lib.hid hch
 have HSS := Lib.hid hs
 have hab : a.block < w.heap.size := by have := block_lt_of_cell (hs 0 (by omega)).1; simpa [Addr.add] using this
 clear hch hs
 go_enter Tryd.func13, Tryd.ntmps13
 go_wp2_with fail
 refine (HCH.out _ (by repeat' (first | with_reducible (first | exact HW0.out | apply bR | apply bD | apply bN | apply bA | apply bS) | (simp; done) | (simp; omega) | omega))).mono ?_
 rintro e w1 ⟨v, rfl, hE, hb⟩
 obtain rfl := hE.nil0 rfl
 obtain ⟨hc1, hf1⟩ := bcell hb
 have hz1 := hb.size
 simp at hz1
 have HW1 := Lib.hid (show Below w.heap.size w w1 from Below.trans (by repeat' (first | with_reducible (first | exact HW0.out | apply bR | apply bD | apply bN | apply bA | apply bS) | (simp; done) | (simp; omega) | omega)) (hb.mono (by first | omega | simp <;> omega)))
 clear hb hE
 have z10 : w.heap.size < w1.heap.size := by omega
 (have k1_w_heap_size_0 : w1.cell? ⟨w.heap.size, 0, none⟩ = some (.int .i64 0) := (by rw [hc1 _ _ (by first | omega | simp <;> omega)]; first | (simp [go_sem]; done) | assumption | (simp [go_sem, *]; done)); have r1_w_heap_size_0 : w1.frozen? ⟨w.heap.size, 0, none⟩ = false := (by rw [hf1 _ _ (by first | omega | simp <;> omega)]; first | (simp [go_sem]; done) | assumption | (simp [go_sem, *]; done)); have k1_w_heap_size_1 : w1.cell? ⟨w.heap.size, 1, none⟩ = some (.int .i64 0) := (by rw [hc1 _ _ (by first | omega | simp <;> omega)]; first | (simp [go_sem]; done) | assumption | (simp [go_sem, *]; done)); have r1_w_heap_size_1 : w1.frozen? ⟨w.heap.size, 1, none⟩ = false := (by rw [hf1 _ _ (by first | omega | simp <;> omega)]; first | (simp [go_sem]; done) | assumption | (simp [go_sem, *]; done)))
 clear hc1 hf1
 go_upto_region 6 with fail
 generalize hW : World.alloc (World.alloc w1 _) _ = w2
 have IS : P.Img w2 (w1.heap.size + 1) 81 (simg wcell vz) := by
  rw [← hW]
  exact imgOf (by simpa using heap_alloc_new (World.alloc w1 _) _) (by kernel_rfl)
 have IW : P.Img w2 w1.heap.size 5 (wimg (.slice (some a) n cap) ⟨0, []⟩) := by
  rw [← hW]
  exact Img.alloc (imgOf (heap_alloc_new w1 _) (by kernel_rfl)) _
 have hb2 : Below w1.heap.size w1 w2 := hW ▸ ((Below.refl _ _).alloc (Nat.le_refl _) _).alloc (by simp) _
 clear hW
 have HIw2 := Lib.hid IS
 have HWw2 := Lib.hid IW
 have HBw2 := Lib.hid (HW1.out.trans (hb2.mono (by omega)))
 have IR : P.Img w1 w.heap.size 2 (fun _ => .int .i64 0) := fun j hj => by
  rcases j with _ | _ | j
  ·exact ⟨k1_w_heap_size_0, r1_w_heap_size_0⟩
  ·exact ⟨k1_w_heap_size_1, r1_w_heap_size_1⟩
  ·omega
 have HRw2 := Lib.hid (IR.later hb2 z10)
 have zsw2 := IS.lt (by omega)
 have zbw2 := IW.lt (by omega)
 have zrw2 := HRw2.out.lt (by omega)
 have yyw2 : w.heap.size ≤ w2.heap.size := HBw2.out.size
 clear IS IW hb2 IR k1_w_heap_size_0 r1_w_heap_size_0 k1_w_heap_size_1 r1_w_heap_size_1 HW1
 go_wp2_with fail
 refine (One_any 0 _).mono ?_
 rintro e w3 ⟨rfl, hb⟩
 have Iw3 := HIw2.out.later hb zsw2
 have HWw3 := Lib.hid (HWw2.out.later hb zbw2)
 have HBw3 := Lib.hid (HBw2.out.trans (hb.mono (by omega)))
 have HRw3 := Lib.hid (HRw2.out.later hb zrw2)
 obtain ⟨vvw33, d0⟩ : ∃ v, w3.cell? ⟨w1.heap.size + 1, 3, none⟩ = some v := ⟨_, Iw3.cell 3 (by omega)⟩
 obtain ⟨vvw34, d1⟩ : ∃ v, w3.cell? ⟨w1.heap.size + 1, 4, none⟩ = some v := ⟨_, Iw3.cell 4 (by omega)⟩
 obtain ⟨vvw35, d2⟩ : ∃ v, w3.cell? ⟨w1.heap.size + 1, 5, none⟩ = some v := ⟨_, Iw3.cell 5 (by omega)⟩
 have g0 := Iw3.free 3 (by omega); have g1 := Iw3.free 4 (by omega); have g2 := Iw3.free 5 (by omega)
 have HIw3 := Lib.hid Iw3
 have yw3 : w2.heap.size ≤ w3.heap.size := hb.size
 clear hb Iw3
 go_upto_region 7 with fail
 generalize hW : World.setCell (World.setCell (World.setCell w3 _ _) _ _) _ _ = w4
 have Iw4 : P.Img w4 (w1.heap.size + 1) 81 (simg wcell vz1) := by
  rw [← hW]
  have K := (((HIw3.out.set (j := 3) (by omega) (wcell ⟨2, bone 0⟩ 0)).set (j := 4) (by omega) (wcell ⟨2, bone 0⟩ 1)).set (j := 5) (by omega) (wcell ⟨2, bone 0⟩ 2)).congr (simg_setreg (by omega : 1 < 11) ⟨2, bone 0⟩)
  exact K
 have HIw4 := Lib.hid Iw4
 have Bw4 : But (w1.heap.size + 1) w3 w4 := hW ▸ (((But.refl (w1.heap.size + 1) w3).setCell (.inl rfl) _).setCell (.inl rfl) _).setCell (.inl rfl) _
 have HWw4 := Lib.hid (Bw4.img HWw3.out (by omega) (by omega))
 have HRw4 := Lib.hid (Bw4.img HRw3.out (by omega) (by omega))
 have HBw4 := Lib.hid (show Below w.heap.size w w4 from hW ▸ ((HBw3.out.setCell (by simp; omega) _).setCell (by simp; omega) _).setCell (by simp; omega) _)
 have zsw4 := Iw4.lt (by omega)
 have zbw4 := HWw4.out.lt (by omega)
 have zrw4 := HRw4.out.lt (by omega)
 have yyw4 : w.heap.size ≤ w4.heap.size := HBw4.out.size
 clear hW Iw4 Bw4 d0 d1 d2 g0 g1 g2
 go_wp2_with fail
 refine (One_any 0 _).mono ?_
 rintro e w5 ⟨rfl, hb⟩
 have Iw5 := HIw4.out.later hb zsw4
 have HWw5 := Lib.hid (HWw4.out.later hb zbw4)
 have HBw5 := Lib.hid (HBw4.out.trans (hb.mono (by omega)))
 have HRw5 := Lib.hid (HRw4.out.later hb zrw4)
 obtain ⟨vvw530, d0⟩ : ∃ v, w5.cell? ⟨w1.heap.size + 1, 30, none⟩ = some v := ⟨_, Iw5.cell 30 (by omega)⟩
 obtain ⟨vvw531, d1⟩ : ∃ v, w5.cell? ⟨w1.heap.size + 1, 31, none⟩ = some v := ⟨_, Iw5.cell 31 (by omega)⟩
 obtain ⟨vvw532, d2⟩ : ∃ v, w5.cell? ⟨w1.heap.size + 1, 32, none⟩ = some v := ⟨_, Iw5.cell 32 (by omega)⟩
 have g0 := Iw5.free 30 (by omega); have g1 := Iw5.free 31 (by omega); have g2 := Iw5.free 32 (by omega)
 have HIw5 := Lib.hid Iw5
 have yw5 : w4.heap.size ≤ w5.heap.size := hb.size
 clear hb Iw5
 go_upto_region 8 with fail
 generalize hW : World.setCell (World.setCell (World.setCell w5 _ _) _ _) _ _ = w6
 have Iw6 : P.Img w6 (w1.heap.size + 1) 81 (simg wcell VS.init) := by
  rw [← hW]
  have K := (((HIw5.out.set (j := 30) (by omega) (wcell ⟨3, bone 0⟩ 0)).set (j := 31) (by omega) (wcell ⟨3, bone 0⟩ 1)).set (j := 32) (by omega) (wcell ⟨3, bone 0⟩ 2)).congr (simg_setreg (by omega : 10 < 11) ⟨3, bone 0⟩)
  rw [vz_init] at K
  exact K
 have HIw6 := Lib.hid Iw6
 have Bw6 : But (w1.heap.size + 1) w5 w6 := hW ▸ (((But.refl (w1.heap.size + 1) w5).setCell (.inl rfl) _).setCell (.inl rfl) _).setCell (.inl rfl) _
 have HWw6 := Lib.hid (Bw6.img HWw5.out (by omega) (by omega))
 have HRw6 := Lib.hid (Bw6.img HRw5.out (by omega) (by omega))
 have HBw6 := Lib.hid (show Below w.heap.size w w6 from hW ▸ ((HBw5.out.setCell (by simp; omega) _).setCell (by simp; omega) _).setCell (by simp; omega) _)
 have zsw6 := Iw6.lt (by omega)
 have zbw6 := HWw6.out.lt (by omega)
 have zrw6 := HRw6.out.lt (by omega)
 have yyw6 : w.heap.size ≤ w6.heap.size := HBw6.out.size
 clear hW Iw6 Bw6 d0 d1 d2 g0 g1 g2
 have HI0 := HIw6
 have hC6 : Cells w6 a S n := HSS.out.later HBw6.out
 have HC6 := Lib.hid hC6
 clear hC6
 go_wp2_with (first | (with_reducible refine vl_load (by simp [go_sem]; done) 114 (.tmp 6) rfl (w1.heap.size + 1) 0 (by simp [go_sem]; done) (scells wcell VS.init) _ (Img.scells HI0.out) Tryd.underlying114 rfl (size_state _) ?_))
 refine (VWalk_any S a n cap w1.heap.size hcap hn2 (by omega) HP.out.step HP.out.wrong HP.out.off n VS.init 0 ⟨0, []⟩ w6 VSOk.init (by omega) (by omega) (Int.le_refl _) (by show (0:Int) ≤ 4000; omega) (by simp) HC6.out HWw6.out).mono ?_
 intro e w7 hp
 obtain ⟨v, rfl, hE, hI7, hB7⟩ := hp
 have hE : ErrIs w7 v (vrun S n).1.1 (vrun S n).1.2 := hE
 have hI7 : P.Img w7 w1.heap.size 5 (wimg (.slice (some a) n cap) (vrun S n).2) := hI7
 have IR7 := hB7.img HRw6.out (by omega) (by omega)
 have r0 := IR7.cell 0 (by omega); have r1 := IR7.cell 1 (by omega)
 have t0 := IR7.free 0 (by omega); have t1 := IR7.free 1 (by omega)
 have HB7 := Lib.hid (HBw6.out.trans ((hB7.below (by omega)).mono (by omega)))
 have o3 : w7.cell? ⟨w1.heap.size, 3, none⟩ = some (.int .i64 (outOf (vrun S n).2.ends).lo) := hI7.cell 3 (by omega)
 have o4 : w7.cell? ⟨w1.heap.size, 4, none⟩ = some (.int .i64 (outOf (vrun S n).2.ends).hi) := hI7.cell 4 (by omega)
 have hr := HR.out
 have nr : ¬ w.heap.size = w1.heap.size := by omega
 have nr2 : ¬ w1.heap.size = w.heap.size := by omega
 clear hB7 hI7 IR7 HWw6 HRw6 HIw6 HI0 HC6 HBw6
 by_cases he : (vrun S n).1.1 = 0
 ·rw [if_neg (by simp [he])] at hr
  subst hr
  obtain rfl := hE.nil0 he
  generalize outOf (vrun S n).2.ends = d at *
  obtain ⟨dl, dh⟩ := d
  simp only at o3 o4
  have HE := Lib.hid he
  clear hE he
  go_wp2_with fail
  refine bodyPost_ret (v := .tuple #[.agg #[.int .i64 dl, .int .i64 dh], .nilIface]) ?_ rfl ⟨_, rfl, .inl ⟨rfl, rfl, rfl⟩, ?_⟩
  ·simp [results, Tryd.results13, go_sem, *]
  ·exact (HB7.out.setCell (by simp) _).setCell (by simp) _
 ·rw [if_pos he] at hr
  subst hr
  obtain ⟨ty, xv, rfl⟩ := hE.noIface he
  have HE := Lib.hid hE
  have HNE := Lib.hid he
  clear hE he
  go_wp2_with fail
  refine bodyPost_ret (v := .tuple #[.agg #[.int .i64 0, .int .i64 0], .iface ty xv]) ?_ rfl ⟨_, rfl, ?_, ?_⟩
  ·simp [results, Tryd.results13, go_sem, *]
  ·exact (HE.out.set0 r0).set0 (World.cell?_setCell_same w7 _ _ r0)
  ·exact (HB7.out.setCell (by simp) _).setCell (by simp) _

theorem ProgOk.of {S : Nat → Step} {n : Nat} (h : (from_ S n 0 n).1 = 0) (hin : ∀ j, j < n → In64 (S j).off ∧ In64 (S j).num) : ProgOk S n := by
 have ok := fun j (hj : j < n) => from_ok n 0 (by omega) h j (by omega) hj
 exact ⟨fun j hj => stepOk_of hj (ok j hj) (hin j hj).2, fun j hj => (at_ok (ok j hj)).1, fun j hj => (hin j hj).1⟩
/-- Verify over any program -/
theorem Verify_full (oa : Option Addr) (n cap : Nat) (S : Nat → Step) (hcap : n ≤ cap) (w : World) (hs : ProgAt w oa S n) (hin : ∀ j, j < n → In64 (S j).off ∧ In64 (S j).num) (hg : w.cell? ⟨5, 0, none⟩ = some (.iface 217 (.agg #[.pointer (some ⟨10, 37, none⟩)]))) :
  Calls Tryd.prog 13 #[.slice oa n cap] w (VerIs w (verify S n)) := by
 have gz := block_lt_of_cell hg
 unfold verify check
 by_cases h : n < 1 ∨ 200 < n
 ·rw [if_pos h, if_pos (by simp)]
  exact Verify_err _ 4 (-1) (by decide) w fun w' hb => (Check_limit oa n cap h hcap w').mono fun e w'' ⟨he, hw⟩ => ⟨_, he, .inr (.inl ⟨by decide, rfl, rfl⟩), by rw [hw]; exact Below.refl _ _⟩
 ·rw [if_neg h]
  obtain ⟨a, ea, hs2⟩ := hs (by omega)
  subst ea
  by_cases h0 : (from_ S n 0 n).1 = 0
  ·rw [if_neg (by simp [h0])]
   refine Verify_go a n cap S (by omega) (by omega) hcap w hs2 (ProgOk.of h0 hin) fun w' hb => (Check_some a n cap S (by omega) (by omega) hcap w' (hs2.later hb) ((hb.cell gz).trans hg)).mono fun e w'' ⟨v, he, hv, hb2⟩ => ⟨v, he, ?_, hb2⟩
   rw [from_zero _ _ h0] at hv
   exact hv
  ·rw [if_pos h0]
   exact Verify_err _ _ _ h0 w fun w' hb => (Check_some a n cap S (by omega) (by omega) hcap w' (hs2.later hb) ((hb.cell gz).trans hg)).mono fun e w'' ⟨v, he, hv, hb2⟩ => ⟨v, he, hv, hb2⟩
end Go.Proofs.YtfpoicdfkjbknaaDoor.W

/-! part: W9 -/
namespace Go.Proofs.YtfpoicdfkjbknaaDoor.W
open Go.RowKit Go.Proofs.YtfpoicdfkjbknaaDoor.P
set_option linter.unusedSimpArgs false
set_option linter.unusedVariables false
theorem bjoin_self (a : P.B) : bjoin a a = a := by cases a; simp [bjoin]
/-- so many ends joined, as the reference joins them -/
def rout (l : List P.B) (k : Nat) : P.B := (l.take k).foldl bjoin (l.headD bnil)
theorem rout_succ {l : List P.B} {k : Nat} {x : P.B} (h : l[k]? = some x) : rout l (k + 1) = bjoin (rout l k) x := by
 unfold rout; rw [List.take_add_one, h]; simp [List.foldl_append]
theorem rout_all (l : List P.B) (h : l ≠ []) : rout l l.length = outOf l := by
 cases l with
 | nil => exact absurd rfl h
 | cons x l => simp [rout, outOf, bjoin_self]
/-- what the reference's Verify gives -/
def RVerIs (w : World) (r : (Int × Int) × P.B) (e : Ending) (w' : World) : Prop := e = .returned (.tuple #[.agg #[.int .i64 r.2.lo, .int .i64 r.2.hi], .agg #[.int .i64 r.1.1, .int .i64 r.1.2]]) ∧ Below w.heap.size w w'

set_option maxRecDepth 100000 in
set_option maxHeartbeats 16000000 in
theorem RVerify_err (l : Value) (er p : Int) (he : er ≠ 0) (w : World) (hch : ∀ w', Below w.heap.size w w' → Calls Tryd.prog 14 #[l] w' fun e w'' => e = .returned (.agg #[.int .i64 er, .int .i64 p]) ∧ Below w'.heap.size w' w'') :
  Calls Tryd.prog 12 #[l] w (RVerIs w ((er, p), bnil)) := by
 have HW0 := Lib.hid (Below.refl w.heap.size w)
 have HCH := Lib.hid hch
 have tn : (er != 0) = true := by rw [bne_iff_ne]; exact he
 clear hch he
 go_enter Tryd.func12, Tryd.ntmps12
 go_wp2_with fail
 refine (HCH.out _ (by repeat' (first | with_reducible (first | exact HW0.out | apply bR | apply bD | apply bN | apply bA | apply bS) | (simp; done) | (simp; omega) | omega))).mono ?_
 rintro e w1 ⟨rfl, hb⟩
 have hz1 := hb.size
 simp at hz1
 have HB1 := Lib.hid (show Below w.heap.size w w1 from Below.trans (by repeat' (first | with_reducible (first | exact HW0.out | apply bR | apply bD | apply bN | apply bA | apply bS) | (simp; done) | (simp; omega) | omega)) (hb.mono (by first | omega | simp <;> omega)))
 have IR1 : P.Img w1 w.heap.size 2 (fun _ => .int .i64 0) := ((Img.zero2 (heap_alloc_new w _)).alloc _).later hb (by simp; omega)
 have IE1 : P.Img w1 (w.heap.size + 1) 2 (fun _ => .int .i64 0) := (Img.zero2 (by simpa using heap_alloc_new (World.alloc w _) _)).later hb (by simp)
 have HI1 := Lib.hid IR1
 have HJ1 := Lib.hid IE1
 clear hb IR1 IE1
 go_upto_region 3 with fail
 generalize hW : World.alloc w1 _ = w2
 have f0 : w2.cell? ⟨w1.heap.size, 0, none⟩ = some (.int .i64 er) := by rw [← hW]; simp [go_sem]
 have f1 : w2.cell? ⟨w1.heap.size, 1, none⟩ = some (.int .i64 p) := by rw [← hW]; simp [go_sem]
 have hbw2 : Below w1.heap.size w1 w2 := hW ▸ (Below.refl _ _).alloc (Nat.le_refl _) _
 have HRw2 := Lib.hid (HI1.out.later hbw2 (by omega))
 have HEw2 := Lib.hid (HJ1.out.later hbw2 (by omega))
 have HBw2 := Lib.hid (HB1.out.trans (hbw2.mono (by omega)))
 have zf : w1.heap.size < w2.heap.size := block_lt_of_cell f0
 clear hW hbw2 HI1 HJ1 HB1
 have r0 := HRw2.out.cell 0 (by omega); have r1 := HRw2.out.cell 1 (by omega)
 have e0 := HEw2.out.cell 0 (by omega); have e1 := HEw2.out.cell 1 (by omega)
 have t0 := HRw2.out.free 0 (by omega); have t1 := HRw2.out.free 1 (by omega)
 have s0 := HEw2.out.free 0 (by omega); have s1 := HEw2.out.free 1 (by omega)
 have zw : w.heap.size + 1 < w2.heap.size := HEw2.out.lt (by omega)
 try simp only at r0 r1 e0 e1
 go_cut [] (fun wx => wx.cell? ⟨w.heap.size, 0, none⟩ = some (.int .i64 0) ∧ wx.cell? ⟨w.heap.size, 1, none⟩ = some (.int .i64 0) ∧ wx.cell? ⟨w.heap.size + 1, 0, none⟩ = some (.int .i64 er) ∧ wx.cell? ⟨w.heap.size + 1, 1, none⟩ = some (.int .i64 p) ∧ Below w.heap.size w wx)
 case first =>
  as_aux_lemma =>
   go_region
   all_goals go_wp2_with fail
   all_goals go_meet
   all_goals go_light
   all_goals refine ⟨?_, ?_, ?_, ?_, ?_⟩
   all_goals first | (simp [go_sem, *]; done) | (repeat' (first | with_reducible exact HBw2.out | with_reducible refine Below.drew ?_ | with_reducible refine Below.setCell ?_ ?_ _ | (simp; done) | (simp; omega) | omega))
 case rest =>
  obtain ⟨r0, r1, e0, e1, hbx⟩ := hcut
  obtain ⟨wx, hwx⟩ : ∃ x, x = wc := ⟨_, rfl⟩; subst hwx
  go_wp2_with fail
  refine bodyPost_ret (v := .tuple #[.agg #[.int .i64 0, .int .i64 0], .agg #[.int .i64 er, .int .i64 p]]) ?_ rfl ⟨rfl, hbx⟩
  simp [results, Tryd.results12, go_sem, *]
set_option maxRecDepth 100000 in
set_option maxHeartbeats 100000000 in
theorem RVerify_go (a : Addr) (n cap : Nat) (S : Nat → Step) (hn : 1 ≤ n) (hn2 : n ≤ 200) (hcap : n ≤ cap) (w : World) (hs : Cells w a S n) (hP : ProgOk S n) (hg : AllAt w)
  (hch : ∀ w', Below w.heap.size w w' → Calls Tryd.prog 14 #[.slice (some a) n cap] w' fun e w'' => e = .returned (.agg #[.int .i64 0, .int .i64 (-1)]) ∧ Below w'.heap.size w' w'') :
  Calls Tryd.prog 12 #[.slice (some a) n cap] w (RVerIs w (if (vrun S n).1.1 ≠ 0 then ((vrun S n).1, bnil) else ((0, -1), outOf (vrun S n).2.ends))) := by
 have HW0 := Lib.hid (Below.refl w.heap.size w)
 obtain ⟨R, hR⟩ : ∃ R, (if (vrun S n).1.1 ≠ 0 then ((vrun S n).1, bnil) else ((0, -1), outOf (vrun S n).2.ends)) = R := ⟨_, rfl⟩
 rw [hR]
 have HR := Lib.hid hR
 have HP := Lib.hid hP
 have HCH := Lib.hid hch
 have HSS := Lib.hid hs
 have HG := Lib.hid hg
 have hab : a.block < w.heap.size := by have := block_lt_of_cell (hs 0 (by omega)).1; simpa [Addr.add] using this
 have hgb : 4 < w.heap.size := block_lt_of_cell hg.1
 clear hR hP hch hs hg
 go_enter Tryd.func12, Tryd.ntmps12
 go_wp2_with fail
 refine (HCH.out _ (by repeat' (first | with_reducible (first | exact HW0.out | apply bR | apply bD | apply bN | apply bA | apply bS) | (simp; done) | (simp; omega) | omega))).mono ?_
 rintro e w1 ⟨rfl, hb⟩
 have hz1 := hb.size
 simp at hz1
 have HB1 := Lib.hid (show Below w.heap.size w w1 from Below.trans (by repeat' (first | with_reducible (first | exact HW0.out | apply bR | apply bD | apply bN | apply bA | apply bS) | (simp; done) | (simp; omega) | omega)) (hb.mono (by first | omega | simp <;> omega)))
 have IR1 : P.Img w1 w.heap.size 2 (fun _ => .int .i64 0) := ((Img.zero2 (heap_alloc_new w _)).alloc _).later hb (by simp; omega)
 have IE1 : P.Img w1 (w.heap.size + 1) 2 (fun _ => .int .i64 0) := (Img.zero2 (by simpa using heap_alloc_new (World.alloc w _) _)).later hb (by simp)
 have HI1 := Lib.hid IR1
 have HJ1 := Lib.hid IE1
 have z11 : w.heap.size + 1 < w1.heap.size := by omega
 clear hb IR1 IE1
 go_upto_region 6 with fail
 generalize hW : World.alloc (World.alloc (World.alloc w1 _) _) _ = w2
 have IS : P.Img w2 (w1.heap.size + 1 + 1) 81 (simg rwcell vz) := by
  rw [← hW]
  exact imgOf (by simpa using heap_alloc_new (World.alloc (World.alloc w1 _) _) _) (by kernel_rfl)
 have IW : P.Img w2 (w1.heap.size + 1) 3 (limg (.slice (some a) n cap) (.slice none 0 0) ⟨0, []⟩) := by
  rw [← hW]
  exact Img.alloc (imgOf (by simpa using heap_alloc_new (World.alloc w1 _) _) (by kernel_rfl)) _
 have hb2 : Below w1.heap.size w1 w2 := hW ▸ (((Below.refl _ _).alloc (Nat.le_refl _) _).alloc (by simp) _).alloc (by simp; omega) _
 clear hW
 have HIw2 := Lib.hid IS
 have HWw2 := Lib.hid IW
 have HBw2 := Lib.hid (HB1.out.trans (hb2.mono (by omega)))
 have HRw2 := Lib.hid (HI1.out.later hb2 (by omega))
 have HEw2 := Lib.hid (HJ1.out.later hb2 (by omega))
 have zsw2 := IS.lt (by omega)
 have zbw2 := IW.lt (by omega)
 clear IS IW hb2 HI1 HJ1
 go_wp2_with fail
 refine (RefOne_any 0 _).mono ?_
 rintro e w3 ⟨rfl, hb⟩
 have Iw3 := HIw2.out.later hb zsw2
 have HWw3 := Lib.hid (HWw2.out.later hb zbw2)
 have HBw3 := Lib.hid (HBw2.out.trans (hb.mono HBw2.out.size))
 have HRw3 := Lib.hid (HRw2.out.later hb (HRw2.out.lt (by omega)))
 have HEw3 := Lib.hid (HEw2.out.later hb (HEw2.out.lt (by omega)))
 obtain ⟨u0w3, d0⟩ : ∃ v, w3.cell? ⟨w1.heap.size + 1 + 1, 3, none⟩ = some v := ⟨_, Iw3.cell 3 (by omega)⟩
 obtain ⟨u1w3, d1⟩ : ∃ v, w3.cell? ⟨w1.heap.size + 1 + 1, 4, none⟩ = some v := ⟨_, Iw3.cell 4 (by omega)⟩
 obtain ⟨u2w3, d2⟩ : ∃ v, w3.cell? ⟨w1.heap.size + 1 + 1, 5, none⟩ = some v := ⟨_, Iw3.cell 5 (by omega)⟩
 have g0 := Iw3.free 3 (by omega); have g1 := Iw3.free 4 (by omega); have g2 := Iw3.free 5 (by omega)
 have HIw3 := Lib.hid Iw3
 clear hb Iw3
 go_upto_region 7 with fail
 generalize hW : World.setCell (World.setCell (World.setCell w3 _ _) _ _) _ _ = w4
 have Iw4 : P.Img w4 (w1.heap.size + 1 + 1) 81 (simg rwcell vz1) := by
  rw [← hW]
  have K := rimg_reg HIw3.out (by omega : 1 < 11) ⟨2, bone 0⟩
  skip
  exact K
 have Bw4 : But (w1.heap.size + 1 + 1) w3 w4 := hW ▸ (((But.refl (w1.heap.size + 1 + 1) w3).setCell (.inl rfl) _).setCell (.inl rfl) _).setCell (.inl rfl) _
 have HIw4 := Lib.hid Iw4
 have HWw4 := Lib.hid (Bw4.img HWw3.out (by omega) (by omega))
 have HRw4 := Lib.hid (Bw4.img HRw3.out (by omega) (by omega))
 have HEw4 := Lib.hid (Bw4.img HEw3.out (by omega) (by omega))
 have HBw4 := Lib.hid (show Below w.heap.size w w4 from hW ▸ ((HBw3.out.setCell (by simp; omega) _).setCell (by simp; omega) _).setCell (by simp; omega) _)
 have zsw4 := Iw4.lt (by omega)
 have zbw4 := HWw4.out.lt (by omega)
 clear hW Iw4 Bw4 d0 d1 d2 g0 g1 g2 HIw2 HWw2 HRw2 HEw2 HBw2 HIw3 HWw3 HRw3 HEw3 HBw3
 go_wp2_with fail
 refine (RefOne_any 0 _).mono ?_
 rintro e w5 ⟨rfl, hb⟩
 have Iw5 := HIw4.out.later hb zsw4
 have HWw5 := Lib.hid (HWw4.out.later hb zbw4)
 have HBw5 := Lib.hid (HBw4.out.trans (hb.mono HBw4.out.size))
 have HRw5 := Lib.hid (HRw4.out.later hb (HRw4.out.lt (by omega)))
 have HEw5 := Lib.hid (HEw4.out.later hb (HEw4.out.lt (by omega)))
 obtain ⟨u0w5, d0⟩ : ∃ v, w5.cell? ⟨w1.heap.size + 1 + 1, 30, none⟩ = some v := ⟨_, Iw5.cell 30 (by omega)⟩
 obtain ⟨u1w5, d1⟩ : ∃ v, w5.cell? ⟨w1.heap.size + 1 + 1, 31, none⟩ = some v := ⟨_, Iw5.cell 31 (by omega)⟩
 obtain ⟨u2w5, d2⟩ : ∃ v, w5.cell? ⟨w1.heap.size + 1 + 1, 32, none⟩ = some v := ⟨_, Iw5.cell 32 (by omega)⟩
 have g0 := Iw5.free 30 (by omega); have g1 := Iw5.free 31 (by omega); have g2 := Iw5.free 32 (by omega)
 have HIw5 := Lib.hid Iw5
 clear hb Iw5
 go_upto_region 8 with fail
 generalize hW : World.setCell (World.setCell (World.setCell w5 _ _) _ _) _ _ = w6
 have Iw6 : P.Img w6 (w1.heap.size + 1 + 1) 81 (simg rwcell VS.init) := by
  rw [← hW]
  have K := rimg_reg HIw5.out (by omega : 10 < 11) ⟨3, bone 0⟩
  rw [vz_init] at K
  exact K
 have Bw6 : But (w1.heap.size + 1 + 1) w5 w6 := hW ▸ (((But.refl (w1.heap.size + 1 + 1) w5).setCell (.inl rfl) _).setCell (.inl rfl) _).setCell (.inl rfl) _
 have HIw6 := Lib.hid Iw6
 have HWw6 := Lib.hid (Bw6.img HWw5.out (by omega) (by omega))
 have HRw6 := Lib.hid (Bw6.img HRw5.out (by omega) (by omega))
 have HEw6 := Lib.hid (Bw6.img HEw5.out (by omega) (by omega))
 have HBw6 := Lib.hid (show Below w.heap.size w w6 from hW ▸ ((HBw5.out.setCell (by simp; omega) _).setCell (by simp; omega) _).setCell (by simp; omega) _)
 have zsw6 := Iw6.lt (by omega)
 have zbw6 := HWw6.out.lt (by omega)
 clear hW Iw6 Bw6 d0 d1 d2 g0 g1 g2 HIw4 HWw4 HRw4 HEw4 HBw4 HIw5 HWw5 HRw5 HEw5 HBw5
 have HC6 := Lib.hid (HSS.out.later HBw6.out)
 have HG6 := Lib.hid (show AllAt w6 from HG.out.later HBw6.out)
 go_wp2_with (first | (with_reducible refine vl_load (by simp [go_sem]; done) 102 (.tmp 6) rfl (w1.heap.size + 1 + 1) 0 (by simp [go_sem]; done) (scells rwcell VS.init) _ (Img.scells HIw6.out) Tryd.underlying102 rfl (rsize _) ?_))
 refine (RGoes_any S a n cap (w1.heap.size + 1) hcap hn2 (by omega) (by omega) HP.out.step HP.out.wrong HP.out.off n VS.init 0 ⟨0, []⟩ (.slice none 0 0) w6 VSOk.init (by omega) (by omega) (Int.le_refl _) (by show (0:Int) ≤ 4000; omega) (by simp) (by simp) HG6.out HC6.out ⟨HWw6.out, ⟨rfl, .inl ⟨rfl, rfl⟩⟩⟩).mono ?_
 intro e w7 hp
 have hp : LPost (w1.heap.size + 1) (.slice (some a) n cap) (.slice none 0 0) w6 (vrun S n) e w7 := hp
 obtain ⟨v, rfl, hL⟩ := hp
 have hL : Led (w1.heap.size + 1) (.slice (some a) n cap) (.slice none 0 0) w6 v (vrun S n).2 w7 := hL
 have HLB : Hid (Below w.heap.size w w7) := HBw6.out.trans ((hL.below (⟨HWw6.out, ⟨rfl, .inl ⟨rfl, rfl⟩⟩⟩ : LookIs w6 (w1.heap.size + 1) (.slice (some a) n cap) (.slice none 0 0) ⟨0, []⟩)).mono (by omega))
 have HRw7 := Lib.hid (hL.img HRw6.out (by omega) (by omega) (by simp [Value.ownBlock]))
 have HEw7 := Lib.hid (hL.img HEw6.out (by omega) (by omega) (by simp [Value.ownBlock]))
 have HKP := Lib.hid (vwalk_keeps HP.out.step n VS.init 0 ⟨0, []⟩ VSOk.init (by omega) (by omega) (by omega))
 have HLK := Lib.hid (vwalk_looks (S := S) n VS.init 0 ⟨0, []⟩ (by show (0:Int) ≤ 4000; omega))
 have HEL := Lib.hid (vwalk_ends (S := S) n VS.init 0 ⟨0, []⟩ (by simp))
 change Hid (Keeps _ (vrun S n)) at HKP
 change Hid ((vrun S n).1.1 = 0 → (vrun S n).2.looks ≤ 4000) at HLK
 change Hid (((vrun S n).2.ends.length : Int) ≤ (vrun S n).2.looks) at HEL
 have hr := HR.out
 clear HR HIw6 HC6 HG6 HRw6 HEw6 HBw6 HWw6 HSS HCH
 generalize vrun S n = V at *
 obtain ⟨⟨er, pl⟩, ⟨lk, E⟩⟩ := V
 simp only at hL HKP HLK HEL hr ⊢
 have HL := Lib.hid hL
 clear hL
 have zb7 : w1.heap.size + 1 < w7.heap.size := HL.out.look.lt
 by_cases he : er = 0
 ·subst he
  rw [if_neg (by simp)] at hr
  subst hr
  have hm : E ≠ [] := by
   obtain ⟨l, h1, h2⟩ := HKP.out.more
   simp only [List.nil_append] at h1
   rw [h1]; exact h2 rfl
  have hl4 : (E.length : Int) ≤ 4000 := Int.le_trans HEL.out (HLK.out rfl)
  have h0 : 0 < E.length := List.length_pos_iff.2 hm
  obtain ⟨g, c2, rfl, hgl, hrow⟩ : ∃ g c2, v = .slice (some ⟨g, 0, none⟩) E.length c2 ∧ w1.heap.size + 1 < g ∧ ∀ j x, E[j]? = some x → w7.cell? ⟨g, j * 2, none⟩ = some (.int .i64 x.lo) ∧ w7.cell? ⟨g, j * 2 + 1, none⟩ = some (.int .i64 x.hi) := by
   have ho := HL.out.look.own
   rcases ho.2 with ⟨-, h2⟩ | ⟨g, c2, cur, hv, hbg, -⟩
   ·simp only at h2; omega
   ·subst hv
    refine ⟨g, c2, rfl, by omega, fun j x hx => ?_⟩
    have hadd : ∀ i, (⟨g, 0, none⟩ : Addr).add i = ⟨g, i, none⟩ := fun i => by unfold Addr.add; split <;> simp_all
    have h1 := ho.cells (g := g) rfl (j * 2) _ (brow_at E j x hx).1
    have h2 := ho.cells (g := g) rfl (j * 2 + 1) _ (brow_at E j x hx).2
    rw [hadd] at h1 h2
    exact ⟨h1, h2⟩
  have HROW := Lib.hid hrow
  have HM := Lib.hid hm
  have o2 : w7.cell? ⟨w1.heap.size + 1, 2, none⟩ = some (.slice (some ⟨g, 0, none⟩) E.length c2) := HL.out.look.img.cell 2 (by omega)
  obtain ⟨x0, hx0⟩ : ∃ x, E[0]? = some x := ⟨_, List.getElem?_eq_getElem h0⟩
  obtain ⟨q0, q1⟩ := hrow 0 x0 hx0
  simp only [Nat.zero_mul, Nat.zero_add] at q0 q1
  have hrz : rout E 0 = x0 := by
   unfold rout; cases E with
   | nil => simp at hx0
   | cons y l => simp at hx0; subst hx0; rfl
  have HRZ := Lib.hid hrz
  have i0 : (0 : Int) < E.length := by omega
  have zg7 : g < w7.heap.size := block_lt_of_cell q0
  obtain ⟨m, hm0⟩ : ∃ m, m = E.length := ⟨_, rfl⟩
  clear hrow hm hrz HKP HLK HEL hx0
  go_upto_region 12 with fail
  generalize hW : World.alloc (World.alloc w7 _) _ = w8
  have I8 : P.Img w8 (w7.heap.size + 1) 2 (fun j => if j = 0 then .int .i64 (rout E 0).lo else .int .i64 (rout E 0).hi) := by
   rw [← hW, HRZ.out]
   refine imgOf (c := #[.int .i64 x0.lo, .int .i64 x0.hi]) (t := 49) ?_ (by kernel_rfl)
   simpa using heap_alloc_new (World.alloc w7 _) (.cells #[.int .i64 x0.lo, .int .i64 x0.hi] 49 (0, 0))
  have hb8 : Below w7.heap.size w7 w8 := hW ▸ ((Below.refl _ _).alloc (Nat.le_refl _) _).alloc (by simp) _
  clear hW q0 q1
  have HI8 := Lib.hid I8
  have HRw8 := Lib.hid (HRw7.out.later hb8 (HRw7.out.lt (by omega)))
  have HEw8 := Lib.hid (HEw7.out.later hb8 (HEw7.out.lt (by omega)))
  have HBw8 := Lib.hid (HLB.out.trans (hb8.mono HLB.out.size))
  have HROW8 : Hid (∀ j x, E[j]? = some x → w8.cell? ⟨g, j * 2, none⟩ = some (.int .i64 x.lo) ∧ w8.cell? ⟨g, j * 2 + 1, none⟩ = some (.int .i64 x.hi)) := fun j x hx => ⟨(hb8.cell (p := ⟨g, j * 2, none⟩) zg7).trans (HROW.out j x hx).1, (hb8.cell (p := ⟨g, j * 2 + 1, none⟩) zg7).trans (HROW.out j x hx).2⟩
  have o2' : w8.cell? ⟨w1.heap.size + 1, 2, none⟩ = some (.slice (some ⟨g, 0, none⟩) E.length c2) := (hb8.cell (p := ⟨w1.heap.size + 1, 2, none⟩) zb7).trans o2
  have z8 : w7.heap.size + 1 < w8.heap.size := I8.lt (by omega)
  clear o2 I8 hb8 HROW HL HRw7 HEw7 HLB
  go_wp2_with fail
  go_loopw [46] (fun i wr => ∃ k : Nat, k ≤ E.length ∧ i = .int .i64 k ∧ P.Img wr (w7.heap.size + 1) 2 (fun j => if j = 0 then .int .i64 (rout E k).lo else .int .i64 (rout E k).hi) ∧ But (w7.heap.size + 1) w8 wr) (fun i _ => E.length - (intOf i).toNat)
  case atStart => exact ⟨0, by omega, rfl, HI8.out, But.refl _ _⟩
  case round =>
   obtain ⟨k, hk, rfl, hI, hB⟩ := hrel
   by_cases h : k < E.length
   ·obtain ⟨x, hx⟩ : ∃ x, E[k]? = some x := ⟨_, List.getElem?_eq_getElem h⟩
    obtain ⟨y0, y1⟩ := HROW8.out k x hx
    have y0 := hB.cell y0 (by simp only; omega)
    have y1 := hB.cell y1 (by simp only; omega)
    have zr : w7.heap.size + 1 < wr.heap.size := hI.lt (by omega)
    have c0 : wr.cell? ⟨w7.heap.size + 1, 0, none⟩ = some (.int .i64 (rout E k).lo) := hI.cell 0 (by omega)
    have c1 : wr.cell? ⟨w7.heap.size + 1, 1, none⟩ = some (.int .i64 (rout E k).hi) := hI.cell 1 (by omega)
    have i1 : (k : Int) < E.length := by omega
    have HX := Lib.hid hx
    have HI := Lib.hid hI
    have HBr := Lib.hid hB
    have zg8 : g < wr.heap.size := by omega
    clear hx hI hB
    go_wp2_with fail
    refine (RefJoin_any _ _ _ _ _).mono ?_
    rintro e wj ⟨rfl, hbj⟩
    have IJ := (HI.out.alloc _).later hbj (by simp; omega)
    have d0 := IJ.cell 0 (by omega); have d1 := IJ.cell 1 (by omega)
    have p0 := IJ.free 0 (by omega); have p1 := IJ.free 1 (by omega)
    have HIJ := Lib.hid IJ
    have HBJ := Lib.hid ((HBr.out.alloc _).trans (But.of hbj))
    clear IJ hbj y0 y1 c0 c1
    simp only [if_true] at d0
    simp only [show ¬ (1 : Nat) = 0 by decide, if_false] at d1
    go_wp2_with fail
    go_roundw
    case rel =>
     go_light
     refine ⟨k + 1, by omega, by go_num, ?_, ?_⟩
     ·rw [rout_succ HX.out]
      exact ((HIJ.out.set (j := 0) (by omega) _).set (j := 1) (by omega) _).congr fun j hj => by
       rcases j with _ | _ | j
       ·simp [P.upd, bjoin]
       ·simp [P.upd, bjoin]
       ·omega
     ·exact (HBJ.out.setCell (.inl rfl) _).setCell (.inl rfl) _
    case measure => simp [intOf]; omega
   ·obtain rfl : k = E.length := by omega
    have c0 : wr.cell? ⟨w7.heap.size + 1, 0, none⟩ = some (.int .i64 (rout E E.length).lo) := hI.cell 0 (by omega)
    have c1 : wr.cell? ⟨w7.heap.size + 1, 1, none⟩ = some (.int .i64 (rout E E.length).hi) := hI.cell 1 (by omega)
    rw [rout_all E HM.out] at c0 c1
    have HRwr := Lib.hid (hB.img HRw8.out (by omega) (by omega))
    have HEwr := Lib.hid (hB.img HEw8.out (by omega) (by omega))
    have HBwr := Lib.hid (HBw8.out.trans ((hB.below (by omega)).mono (by omega)))
    clear hI hB o2' HROW8
    generalize outOf E = X at *
    obtain ⟨xl, xh⟩ := X
    simp only at c0 c1
    go_upto_region 17 with fail
    have k0 := cell_regrown c0; have k1 := cell_regrown c1
    have CB := Lib.hid (show ∀ dr os, Calls Tryd.prog 16 #[.int .i64 0] (Go.Sort.grow (redrawn wr dr) os) fun e w'' => e = .returned (.agg #[.int .i64 0, .int .i64 (-1)]) ∧ ∃ p : Regrown, w'' = Go.Sort.grow (redrawn wr p.d) p.os from fun dr os => Calls.regrown_of (Bare_any 0 _))
    refine wp_below_tail 2 (by kernel_rfl) (by kernel_rfl) ?_
    repeat (quiet_step (first | exact CB.out _ _))
    refine wpQuiet_nil ?_
    intro wq hwq
    have hbq : Below wr.heap.size wr wq := by
     obtain ⟨p, hp⟩ := hwq
     rw [hp]; exact below_regrown _ _ _
    clear hwq
    have IRq := HRwr.out.later hbq (HRwr.out.lt (by omega))
    have IEq := HEwr.out.later hbq (HEwr.out.lt (by omega))
    have HBq := Lib.hid (HBwr.out.trans (hbq.mono HBwr.out.size))
    have zq : w.heap.size + 1 < wq.heap.size := IEq.lt (by omega)
    have r0 := IRq.cell 0 (by omega); have r1 := IRq.cell 1 (by omega)
    have e0 := IEq.cell 0 (by omega); have e1 := IEq.cell 1 (by omega)
    have t0 := IRq.free 0 (by omega); have t1 := IRq.free 1 (by omega)
    have s0 := IEq.free 0 (by omega); have s1 := IEq.free 1 (by omega)
    clear hbq IRq IEq
    try simp only at r0 r1 e0 e1
    go_wp2_with fail
    refine bodyPost_ret (v := .tuple #[.agg #[.int .i64 xl, .int .i64 xh], .agg #[.int .i64 0, .int .i64 (-1)]]) ?_ rfl ⟨rfl, ?_⟩
    ·simp [results, Tryd.results12, go_sem, *]
    ·exact (((HBq.out.setCell (by simp) _).setCell (by simp) _).setCell (by simp) _).setCell (by simp) _
 ·rw [if_pos he] at hr
  subst hr
  have tn : (er != 0) = true := by rw [bne_iff_ne]; exact he
  have HE0 := Lib.hid he
  clear he HKP HLK HEL HL
  go_upto_region 10 with fail
  generalize hW : World.alloc w7 _ = w8
  have f0 : w8.cell? ⟨w7.heap.size, 0, none⟩ = some (.int .i64 er) := by rw [← hW]; simp [go_sem]
  have f1 : w8.cell? ⟨w7.heap.size, 1, none⟩ = some (.int .i64 pl) := by rw [← hW]; simp [go_sem]
  have hbw8 : Below w7.heap.size w7 w8 := hW ▸ (Below.refl _ _).alloc (Nat.le_refl _) _
  have HRw8 := Lib.hid (HRw7.out.later hbw8 (HRw7.out.lt (by omega)))
  have HEw8 := Lib.hid (HEw7.out.later hbw8 (HEw7.out.lt (by omega)))
  have HBw8 := Lib.hid (HLB.out.trans (hbw8.mono HLB.out.size))
  have zf : w7.heap.size < w8.heap.size := block_lt_of_cell f0
  clear hW hbw8 HRw7 HEw7 HLB
  have r0 := HRw8.out.cell 0 (by omega); have r1 := HRw8.out.cell 1 (by omega)
  have e0 := HEw8.out.cell 0 (by omega); have e1 := HEw8.out.cell 1 (by omega)
  have t0 := HRw8.out.free 0 (by omega); have t1 := HRw8.out.free 1 (by omega)
  have s0 := HEw8.out.free 0 (by omega); have s1 := HEw8.out.free 1 (by omega)
  have zw : w.heap.size + 1 < w8.heap.size := HEw8.out.lt (by omega)
  try simp only at r0 r1 e0 e1
  go_cut [] (fun wx => wx.cell? ⟨w.heap.size, 0, none⟩ = some (.int .i64 0) ∧ wx.cell? ⟨w.heap.size, 1, none⟩ = some (.int .i64 0) ∧ wx.cell? ⟨w.heap.size + 1, 0, none⟩ = some (.int .i64 er) ∧ wx.cell? ⟨w.heap.size + 1, 1, none⟩ = some (.int .i64 pl) ∧ Below w.heap.size w wx)
  case first =>
   as_aux_lemma =>
    go_region
    all_goals go_wp2_with fail
    all_goals go_meet
    all_goals go_light
    all_goals refine ⟨?_, ?_, ?_, ?_, ?_⟩
    all_goals first | (simp [go_sem, *]; done) | (repeat' (first | with_reducible exact HBw8.out | with_reducible refine Below.drew ?_ | with_reducible refine Below.setCell ?_ ?_ _ | (simp; done) | (simp; omega) | omega))
  case rest =>
   obtain ⟨r0, r1, e0, e1, hbx⟩ := hcut
   obtain ⟨wx, hwx⟩ : ∃ x, x = wc := ⟨_, rfl⟩; subst hwx
   go_wp2_with fail
   refine bodyPost_ret (v := .tuple #[.agg #[.int .i64 0, .int .i64 0], .agg #[.int .i64 er, .int .i64 pl]]) ?_ rfl ⟨rfl, hbx⟩
   simp [results, Tryd.results12, go_sem, *]
/-- the reference's Verify over any program -/
theorem RVerify_full (oa : Option Addr) (n cap : Nat) (S : Nat → Step) (hcap : n ≤ cap) (w : World) (hs : ProgAt w oa S n) (hin : ∀ j, j < n → In64 (S j).off ∧ In64 (S j).num) (hg : AllAt w) :
  Calls Tryd.prog 12 #[.slice oa n cap] w (RVerIs w (verify S n)) := by
 unfold verify check
 by_cases h : n < 1 ∨ 200 < n
 ·rw [if_pos h, if_pos (by simp)]
  exact RVerify_err _ 4 (-1) (by decide) w fun w' hb => RefCheck_limit oa n cap h hcap w'
 ·rw [if_neg h]
  obtain ⟨a, ea, hs2⟩ := hs (by omega)
  subst ea
  by_cases h0 : (from_ S n 0 n).1 = 0
  ·rw [if_neg (by simp [h0])]
   refine RVerify_go a n cap S (by omega) (by omega) hcap w hs2 (ProgOk.of h0 hin) hg fun w' hb => (RefCheck_some a n cap S (by omega) (by omega) hcap w' (hs2.later hb)).mono fun e w'' ⟨he, hb2⟩ => ⟨?_, hb2⟩
   rw [from_zero _ _ h0] at he
   exact he
  ·rw [if_pos h0]
   exact RVerify_err _ _ _ h0 w fun w' hb => RefCheck_some a n cap S (by omega) (by omega) hcap w' (hs2.later hb)
end Go.Proofs.YtfpoicdfkjbknaaDoor.W

/-! part: Is -/
namespace Go.Proofs.YtfpoicdfkjbknaaDoor.W
open Go.RowKit Go.Proofs.YtfpoicdfkjbknaaDoor.P
set_option linter.unusedSimpArgs false
set_option linter.unusedVariables false

theorem ErrIs.later {w w' : World} {v : Value} {n p : Int} (h : ErrIs w v n p) (hb : Below w.heap.size w w') : ErrIs w' v n p := by
 rcases h with h | h | ⟨hne, b, hv, h0, h1⟩
 ·exact .inl h
 ·exact .inr (.inl h)
 ·have l := block_lt_of_cell h0
  exact .inr (.inr ⟨hne, b, hv, (hb.cell l).trans h0, (hb.cell (p := ⟨b, 1, none⟩) l).trans h1⟩)

set_option maxRecDepth 100000 in
set_option maxHeartbeats 4000000 in
theorem is_same (v : Value) (n p : Int) (w : World) (h : ErrIs w v n p) (hg : w.cell? ⟨5, 0, none⟩ = some (.iface 217 (.agg #[.pointer (some ⟨10, 37, none⟩)]))) :
  Calls Tryd.prog 8 #[v, .agg #[.int .i64 n, .int .i64 p]] w fun e w' => e = .returned (.bool true) ∧ Below w.heap.size w w' := by
 have HW0 := Lib.hid (Below.refl w.heap.size w)
 have hlt := block_lt_of_cell hg
 rcases h with ⟨rfl, rfl, rfl⟩ | ⟨-, rfl, rfl⟩ | ⟨-, b, rfl, h0, h1⟩
 ·go_enter Tryd.func8, Tryd.ntmps8
  go_wp2_with fail
  refine (Place_nil _).mono ?_
  (rintro e w1 ⟨rfl, hb⟩; obtain ⟨hc1, hf1⟩ := bcell hb; have hz1 := hb.size; (try simp at hz1); have HW1 := Lib.hid (show Below w.heap.size w w1 from Below.trans (by repeat' (first | with_reducible (first | exact HW0.out | apply bR | apply bD | apply bN | apply bA | apply bS) | (simp; done) | (simp; omega) | omega)) (hb.mono (by first | omega | simp <;> omega))); clear hb; (try have z10 : w.heap.size < w1.heap.size := by omega); (try have z11 : w.heap.size + 1 < w1.heap.size := by omega))
  have b0 : w1.cell? ⟨w.heap.size, 0, none⟩ = some (.int .i64 0) := by rw [hc1 _ _ (by simp)]; simp [go_sem]
  have b1 : w1.cell? ⟨w.heap.size, 1, none⟩ = some (.int .i64 (-1)) := by rw [hc1 _ _ (by simp)]; simp [go_sem]
  clear hc1 hf1
  go_wp2_with fail
  go_ret
  exact ⟨rfl, (by repeat' (first | with_reducible (first | exact HW1.out | apply bR | apply bD | apply bN | apply bA | apply bS) | (simp; done) | (simp; omega) | omega))⟩
 ·go_enter Tryd.func8, Tryd.ntmps8
  go_wp2_with fail
  refine (Place_errno n _ (by rw [World.cell?_alloc_lt _ _ ⟨5, 0, none⟩ hlt]; exact hg)).mono ?_
  (rintro e w1 ⟨rfl, hb⟩; obtain ⟨hc1, hf1⟩ := bcell hb; have hz1 := hb.size; (try simp at hz1); have HW1 := Lib.hid (show Below w.heap.size w w1 from Below.trans (by repeat' (first | with_reducible (first | exact HW0.out | apply bR | apply bD | apply bN | apply bA | apply bS) | (simp; done) | (simp; omega) | omega)) (hb.mono (by first | omega | simp <;> omega))); clear hb; (try have z10 : w.heap.size < w1.heap.size := by omega); (try have z11 : w.heap.size + 1 < w1.heap.size := by omega))
  have b0 : w1.cell? ⟨w.heap.size, 0, none⟩ = some (.int .i64 n) := by rw [hc1 _ _ (by simp)]; simp [go_sem]
  have b1 : w1.cell? ⟨w.heap.size, 1, none⟩ = some (.int .i64 (-1)) := by rw [hc1 _ _ (by simp)]; simp [go_sem]
  clear hc1 hf1
  go_wp2_with fail
  go_ret
  exact ⟨ret_bool (by simp), (by repeat' (first | with_reducible (first | exact HW1.out | apply bR | apply bD | apply bN | apply bA | apply bS) | (simp; done) | (simp; omega) | omega))⟩
 ·have l := block_lt_of_cell h0
  go_enter Tryd.func8, Tryd.ntmps8
  go_wp2_with fail
  refine (Place_at b n p _ (by rw [World.cell?_alloc_lt _ _ ⟨5, 0, none⟩ hlt]; exact hg) (by rw [World.cell?_alloc_lt _ _ ⟨b, 0, none⟩ l]; exact h0) (by rw [World.cell?_alloc_lt _ _ ⟨b, 1, none⟩ l]; exact h1)).mono ?_
  (rintro e w1 ⟨rfl, hb⟩; obtain ⟨hc1, hf1⟩ := bcell hb; have hz1 := hb.size; (try simp at hz1); have HW1 := Lib.hid (show Below w.heap.size w w1 from Below.trans (by repeat' (first | with_reducible (first | exact HW0.out | apply bR | apply bD | apply bN | apply bA | apply bS) | (simp; done) | (simp; omega) | omega)) (hb.mono (by first | omega | simp <;> omega))); clear hb; (try have z10 : w.heap.size < w1.heap.size := by omega); (try have z11 : w.heap.size + 1 < w1.heap.size := by omega))
  have b0 : w1.cell? ⟨w.heap.size, 0, none⟩ = some (.int .i64 n) := by rw [hc1 _ _ (by simp)]; simp [go_sem]
  have b1 : w1.cell? ⟨w.heap.size, 1, none⟩ = some (.int .i64 p) := by rw [hc1 _ _ (by simp)]; simp [go_sem]
  clear hc1 hf1
  go_wp2_with fail
  go_ret
  exact ⟨ret_bool (by simp), (by repeat' (first | with_reducible (first | exact HW1.out | apply bR | apply bD | apply bN | apply bA | apply bS) | (simp; done) | (simp; omega) | omega))⟩

end Go.Proofs.YtfpoicdfkjbknaaDoor.W

/-! part: LawVerifyGoes -/
namespace Go.Proofs.YtfpoicdfkjbknaaDoor.W
open Go.RowKit Go.Proofs.YtfpoicdfkjbknaaDoor.P
set_option linter.unusedSimpArgs false
set_option linter.unusedVariables false

set_option maxRecDepth 100000 in
set_option maxHeartbeats 4000000 in
theorem verifyGoes_big (oa : Option Addr) (n cap : Nat) (h : 300 < n) (w : World) :
  Calls Tryd.prog 5 #[.slice oa n cap] w fun e w' => e = .returned (.bool true) ∧ Below w.heap.size w w' := by
 have HW0 := Lib.hid (Below.refl w.heap.size w)
 have h3 : 300 < (n : Int) := by omega
 go_enter Tryd.func5, Tryd.ntmps5
 go_wp2_with fail
 go_ret
 exact ⟨rfl, (by repeat' (first | with_reducible (first | exact HW0.out | apply bR | apply bD | apply bN | apply bA | apply bS) | (simp; done) | (simp; omega) | omega))⟩

set_option maxRecDepth 100000 in
set_option maxHeartbeats 16000000 in
theorem verifyGoes_walk (oa : Option Addr) (n cap : Nat) (S : Nat → Step) (hcap : n ≤ cap) (h : ¬ 300 < n) (w : World) (hs : ProgAt w oa S n) (hin : ∀ j, j < n → In64 (S j).off ∧ In64 (S j).num) (hg : w.cell? ⟨5, 0, none⟩ = some (.iface 217 (.agg #[.pointer (some ⟨10, 37, none⟩)]))) (ha : AllAt w) :
  Calls Tryd.prog 5 #[.slice oa n cap] w fun e w' => e = .returned (.bool true) ∧ Below w.heap.size w w' := by
 have HW0 := Lib.hid (Below.refl w.heap.size w)
 have h3 : ¬ 300 < (n : Int) := by omega
 have gz := block_lt_of_cell hg
 have C1 := fun w' (hb : Below w.heap.size w w') => RVerify_full oa n cap S hcap w' (hs.later hb) hin (ha.later hb)
 have C2 := fun w' (hb : Below w.heap.size w w') => Verify_full oa n cap S hcap w' (hs.later hb) hin ((hb.cell gz).trans hg)
 generalize verify S n = X at C1 C2
 obtain ⟨⟨er, p⟩, ⟨lo, hi⟩⟩ := X
 have HC1 := Lib.hid C1
 have HC2 := Lib.hid C2
 have HG := Lib.hid hg
 clear C1 C2 hs hin hg ha
 go_enter Tryd.func5, Tryd.ntmps5
 go_wp2_with fail
 refine (HC1.out _ (by repeat' (first | with_reducible exact HW0.out | with_reducible refine Below.alloc ?_ ?_ _ | (simp; done) | (simp; omega) | omega))).mono ?_
 rintro e w1 ⟨rfl, hb⟩
 have HB1 := Lib.hid hb
 have z1 : w.heap.size ≤ w1.heap.size := hb.size
 clear hb
 simp only
 go_upto_region 4 with fail
 generalize hW : World.alloc (World.alloc w1 _) _ = w2
 have I0 : P.Img w2 w1.heap.size 2 (fun j => if j = 0 then .int .i64 lo else .int .i64 hi) := by
  rw [← hW]
  exact (imgOf (heap_alloc_new w1 _) (by kernel_rfl)).alloc _
 have I1 : P.Img w2 (w1.heap.size + 1) 2 (fun j => if j = 0 then .int .i64 er else .int .i64 p) := by
  rw [← hW]
  exact imgOf (by simpa using heap_alloc_new (World.alloc w1 _) _) (by kernel_rfl)
 have HB2 := Lib.hid (show Below w.heap.size w w2 from HB1.out.trans (hW ▸ ((Below.refl _ _).alloc z1 _).alloc (by simp; omega) _))
 have HI0 := Lib.hid I0
 have HI1 := Lib.hid I1
 clear I0 I1 hW
 go_wp2_with fail
 refine (HC2.out _ HB2.out).mono ?_
 rintro e w3 ⟨v, rfl, hE, hb⟩
 have HB3 := Lib.hid (HB2.out.trans (hb.mono HB2.out.size))
 have I0 := HI0.out.later hb (HI0.out.lt (by omega))
 have I1 := HI1.out.later hb (HI1.out.lt (by omega))
 have HI03 := Lib.hid I0
 have a0 : w3.cell? ⟨w1.heap.size, 0, none⟩ = some (.int .i64 lo) := I0.cell 0 (by omega)
 have a1 : w3.cell? ⟨w1.heap.size, 1, none⟩ = some (.int .i64 hi) := I0.cell 1 (by omega)
 have b0 : w3.cell? ⟨w1.heap.size + 1, 0, none⟩ = some (.int .i64 er) := I1.cell 0 (by omega)
 have b1 : w3.cell? ⟨w1.heap.size + 1, 1, none⟩ = some (.int .i64 p) := I1.cell 1 (by omega)
 have z3 : w1.heap.size + 1 < w3.heap.size := I1.lt (by omega)
 have HE := Lib.hid hE
 clear hb I0 I1 hE HI0 HI1
 simp only
 go_wp2_with fail
 refine (is_same v er p _ (HE.out.later ((Below.refl _ _).alloc (Nat.le_refl _) _)) ?_).mono ?_
 ·exact (((HB3.out.alloc (by omega) _).cell (p := ⟨5, 0, none⟩) gz)).trans HG.out
 rintro e w4 ⟨rfl, hb⟩
 have hbb : Below w3.heap.size w3 w4 := ((Below.refl _ _).alloc (Nat.le_refl _) _).trans (hb.mono (by simp))
 have a0' : w4.cell? ⟨w1.heap.size, 0, none⟩ = some (.int .i64 lo) := (hbb.cell (p := ⟨w1.heap.size, 0, none⟩) (by simp only; omega)).trans a0
 have a1' : w4.cell? ⟨w1.heap.size, 1, none⟩ = some (.int .i64 hi) := (hbb.cell (p := ⟨w1.heap.size, 1, none⟩) (by simp only; omega)).trans a1
 have c0 : w4.cell? ⟨w3.heap.size, 0, none⟩ = some (.int .i64 lo) := (hb.cell (p := ⟨w3.heap.size, 0, none⟩) (by simp)).trans (by simp [go_sem])
 have c1 : w4.cell? ⟨w3.heap.size, 1, none⟩ = some (.int .i64 hi) := (hb.cell (p := ⟨w3.heap.size, 1, none⟩) (by simp)).trans (by simp [go_sem])
 have HB4 := Lib.hid (HB3.out.trans (hbb.mono (by omega)))
 clear hb hbb a0 a1 b0 b1
 go_wp2_with fail
 go_ret
 refine ⟨?_, HB4.out⟩
 first | rfl | (simp; done) | exact ret_bool (by simp)
end Go.Proofs.YtfpoicdfkjbknaaDoor.W

/-! part: Post -/
namespace Go.Proofs.YtfpoicdfkjbknaaDoor.W
open Go.RowKit Go.WideShapes Go.ChangeShapes
set_option linter.unusedSimpArgs false
set_option linter.unusedVariables false

theorem post_old {H : Type} {enc : TypeId × Value → H} {P : Program} {f : Func} {s : ChangeSpec} {apart fresh handsOn again : Bool} {w w' : World} {args : Array Value} {v : Value} {ds gs : List (DataW H)} {old pa pv : List MemPlace}
  (hb : Below w.heap.size w w') (hW : DataW.Whole enc P f.params.toList s.vars apart w args.toList ds gs old) (hp : old = pa ++ pv)
  (hr : ∀ (b : Nat) (sp : Nat → Bool) (hd : Bool), DataW.TrodAll enc P w' b sp hd f.resultTypes.toList (v.resultList f.resultTypes.size) (s.fn H (ds ++ gs)).results [])
  (ha : ∀ sp : Nat → Bool, (∀ p ∈ old, sp p.block = true) → DataW.TrodAll enc P w' 0 sp true f.params.toList args.toList (s.fn H (ds ++ gs)).args pa)
  (hv : ∀ sp : Nat → Bool, (∀ p ∈ old, sp p.block = true) → DataW.TrodVars enc P w' sp s.vars (s.fn H (ds ++ gs)).vars pv)
  (hok : ∀ (j : Nat) (t : TypeId) (r : Value), f.resultTypes[j]? = some t → (v.resultList f.resultTypes.size)[j]? = some r → Value.okWide P w' .any 0 t r) :
  s.post enc P f apart fresh handsOn again w args v w' := by
 let sp : Nat → Bool := fun b => decide (b < w.heap.size)
 have lt : ∀ p ∈ old, p.block < w.heap.size := fun p h => hW.lt p h
 have osp : ∀ p ∈ old, sp p.block = true := fun p h => decide_eq_true (lt p h)
 have kept : w.keptBut w' (· ∈ old) := hb.frame _
 have all := trodAll_append (ha (fun _ => true) (fun _ _ => rfl)) (hr 0 (fun _ => true) true)
 refine ⟨ds, gs, old, [], pa, pv, hW, hr _ _ _, ha sp osp, hv sp osp, World.keptBut_mono (fun p h => ⟨h, Or.inr ?_⟩) kept, fun _ => ?_⟩
 ·exact List.mem_append.1 (hp ▸ h)
 ·obtain ⟨_, _, _, _, _, hz, hn⟩ := hW
  refine ⟨hok, _, _, [] ++ pa ++ pv, ⟨[] ++ pa, pv, all, hv _ (fun _ _ => rfl), rfl, ?_, ?_⟩, ?_⟩
  ·intro b off h
   have ho : MemPlace.cell b off ∈ old := by rw [hp]; simpa using h
   rw [hb.frozen (lt _ ho)]
   exact hz b off ho
  ·intro h
   have := hn h
   rw [hp] at this
   simpa using this
  ·intro p h _
   rw [hp]
   simpa using h

end Go.Proofs.YtfpoicdfkjbknaaDoor.W

/-! part: FinalVerifyGoes -/
namespace Go.Proofs.YtfpoicdfkjbknaaDoor.verifyGoes
open Go.ChangeShapes Go.WideShapes Go.ChangeAt Go.RowKit Go.Joins Go.Deep
set_option linter.unusedSimpArgs false
set_option linter.unusedVariables false
set_option linter.unusedVariables false

theorem own : ownKnob Tryd.prog.godebug = none := by kernel_rfl
theorem laidOut : laidOutB Tryd.prog = true := by kernel_rfl
theorem cellsS : Tryd.prog.cellsOf 65 = 6 := by kernel_rfl

theorem in64_lit {n : Int} (h : (Lit.int .i64 n).wf = true) : P.In64 n := by
 simp [Lit.wf, IntKind.min, IntKind.max, IntKind.signed, IntKind.bits] at h
 exact h

/-- a list of six -/
theorem six {α : Type} {l : List α} (h : l.length = 6) : ∃ a b c d e f, l = [a, b, c, d, e, f] := by
 match l, h with
 | [a, b, c, d, e, f], _ => exact ⟨a, b, c, d, e, f, rfl⟩

/-- one step's six cells, out of its reading -/
theorem step_of_reads {H : Type} {enc : TypeId × Value → H} {W : World} {sp : Nat → Bool} {held : Bool} {fuel : Nat} {cs : List Value} {x : DataW H × List MemPlace}
  (h : DataW.trod enc Tryd.prog W 0 sp held fuel 65 cs = some x) :
  ∃ s : P.Step, cs = [.int .i64 s.code, .int .i64 s.dst, .int .i64 s.src, .bool s.reg, .int .i64 s.off, .int .i64 s.num] ∧ P.In64 s.off ∧ P.In64 s.num := by
 obtain ⟨xs, n, -, -, hl, hxl, hf⟩ := DataW.trod_struct Tryd.underlying65 h
 rw [cellsS] at hl
 obtain ⟨c0, c1, c2, c3, c4, c5, rfl⟩ := six hl
 obtain ⟨x0, x1, x2, x3, x4, x5, rfl⟩ := six hxl
 have g0 : DataW.trod enc Tryd.prog W 0 sp held n 3 (List.take (Tryd.prog.cellsOf 3) (List.drop 0 [c0, c1, c2, c3, c4, c5])) = some x0 := hf 0 _ rfl
 have g1 : DataW.trod enc Tryd.prog W 0 sp held n 3 (List.take (Tryd.prog.cellsOf 3) (List.drop 1 [c0, c1, c2, c3, c4, c5])) = some x1 := hf 1 _ rfl
 have g2 : DataW.trod enc Tryd.prog W 0 sp held n 3 (List.take (Tryd.prog.cellsOf 3) (List.drop 2 [c0, c1, c2, c3, c4, c5])) = some x2 := hf 2 _ rfl
 have g3 : DataW.trod enc Tryd.prog W 0 sp held n 4 (List.take (Tryd.prog.cellsOf 4) (List.drop 3 [c0, c1, c2, c3, c4, c5])) = some x3 := hf 3 _ rfl
 have g4 : DataW.trod enc Tryd.prog W 0 sp held n 3 (List.take (Tryd.prog.cellsOf 3) (List.drop 4 [c0, c1, c2, c3, c4, c5])) = some x4 := hf 4 _ rfl
 have g5 : DataW.trod enc Tryd.prog W 0 sp held n 2 (List.take (Tryd.prog.cellsOf 2) (List.drop 5 [c0, c1, c2, c3, c4, c5])) = some x5 := hf 5 _ rfl
 have cI : Tryd.prog.cellsOf 3 = 1 := by kernel_rfl
 have cB : Tryd.prog.cellsOf 4 = 1 := by kernel_rfl
 have cL : Tryd.prog.cellsOf 2 = 1 := by kernel_rfl
 simp only [cI, cB, cL, List.drop_zero, List.drop_succ_cons, List.take_succ_cons, List.take_zero] at g0 g1 g2 g3 g4 g5
 obtain ⟨k0, e0, -⟩ := DataW.trod_int Tryd.underlying3 g0
 obtain ⟨k1, e1, -⟩ := DataW.trod_int Tryd.underlying3 g1
 obtain ⟨k2, e2, -⟩ := DataW.trod_int Tryd.underlying3 g2
 obtain ⟨k3, e3, -⟩ := DataW.trod_bool Tryd.underlying4 g3
 obtain ⟨k4, e4, -, w4⟩ := DataW.trod_int Tryd.underlying3 g4
 obtain ⟨k5, e5, -, w5⟩ := DataW.trod_int Tryd.underlying2 g5
 simp only [List.cons.injEq, and_true] at e0 e1 e2 e3 e4 e5
 subst e0 e1 e2 e3 e4 e5
 exact ⟨⟨k0, k1, k2, k3, k4, k5⟩, rfl, in64_lit w4, in64_lit w5⟩

/-- a program's cells, out of its reading -/
theorem steps_of_reads {H : Type} {enc : TypeId × Value → H} {W : World} {fuel : Nat} {v : Value} {x : DataW H × List MemPlace}
  (h : DataW.trod enc Tryd.prog W 0 (fun _ => true) true fuel 22 [v] = some x) :
  v = .slice none 0 0 ∨ ∃ a len cap S, v = .slice (some a) len cap ∧ len ≤ cap ∧ Go.Proofs.YtfpoicdfkjbknaaDoor.W.Cells W a S len ∧ ∀ j, j < len → P.In64 (S j).off ∧ P.In64 (S j).num := by
 rcases open_slice Tryd.underlying22 h with ⟨hc, -⟩ | ⟨a, len, cap, m, n, D, Pl, hc, hb, hl, hm, hmm, hx, hi⟩
 ·exact .inl (by simpa using hc)
 ·right
  have hs : ∀ i, i < len → ∃ s : P.Step, W.cell? (a.add (i * 6)) = some (.int .i64 s.code) ∧ W.cell? ⟨(a.add (i * 6)).block, (a.add (i * 6)).off + 1, none⟩ = some (.int .i64 s.dst) ∧
    W.cell? ⟨(a.add (i * 6)).block, (a.add (i * 6)).off + 2, none⟩ = some (.int .i64 s.src) ∧ W.cell? ⟨(a.add (i * 6)).block, (a.add (i * 6)).off + 3, none⟩ = some (.bool s.reg) ∧
    W.cell? ⟨(a.add (i * 6)).block, (a.add (i * 6)).off + 4, none⟩ = some (.int .i64 s.off) ∧ W.cell? ⟨(a.add (i * 6)).block, (a.add (i * 6)).off + 5, none⟩ = some (.int .i64 s.num) ∧ P.In64 s.off ∧ P.In64 s.num := by
   intro i hil
   have him : i < m := by rw [hmm]; simp; omega
   obtain ⟨cs, hcs, ht⟩ := hi i him
   rw [cellsS] at hcs
   obtain ⟨-, -, hat⟩ := World.cells?_some hcs
   obtain ⟨s, rfl, i4, i5⟩ := step_of_reads ht
   exact ⟨s, hat 0 (by omega), hat 1 (by omega), hat 2 (by omega), hat 3 (by omega), hat 4 (by omega), hat 5 (by omega), i4, i5⟩
  refine ⟨a, len, cap, fun i => if hl : i < len then Classical.choose (hs i hl) else ⟨0, 0, 0, false, 0, 0⟩, by simpa using hc, hl, fun i hil => ?_, fun i hil => ?_⟩
  ·simp only [hil, dite_true]
   obtain ⟨h0, h1, h2, h3, h4, h5, -, -⟩ := Classical.choose_spec (hs i hil)
   exact ⟨h0, h1, h2, h3, h4, h5⟩
  ·simp only [hil, dite_true]
   exact (Classical.choose_spec (hs i hil)).2.2.2.2.2.2

/-! the variable errors.errorType: the handle of the type 'error' -/
theorem et : Tryd.prog.globalNamed "errors.errorType" = some 5 := by kernel_rfl
theorem rt : (Tryd.prog.cutTypes.find? (·.1 == "internal/reflectlite.rtype")).map (·.2) = some 217 := by kernel_rfl
theorem size : Tryd.prog.types.size = 265 := by kernel_rfl
theorem oneRow : ((List.range 265).filter fun t => Tryd.prog.rowNamed t [101, 114, 114, 111, 114]) = [37] := by kernel_rfl

/-- what the condition gives the walk: the variable's one cell -/
theorem handle_of_laid {W : World} (h : laidMetH Tryd.prog Rows.verifyGoesRow.laid W) : W.cell? ⟨5, 0, none⟩ = some (.iface 217 (.agg #[.pointer (some ⟨10, 37, none⟩)])) := by
 have h' : laidMet Tryd.prog [("gatehouse/gatehouseref.all", Rows.laid_gatehouse_gatehouseref_all)] W ∧ handlesMet Tryd.prog [("errors.errorType", Rows.laid_errors_errorType)] W := h
 obtain ⟨name, u, ty, e1, e2, e3, e4, e5⟩ := h'.2 _ (List.mem_singleton.2 rfl)
 have en : name = [101, 114, 114, 111, 114] := (Option.some.inj e1).symm
 subst en
 obtain rfl := Option.some.inj (rt.symm.trans e2)
 have hm : ty ∈ (List.range 265).filter fun t => Tryd.prog.rowNamed t [101, 114, 114, 111, 114] := List.mem_filter.2 ⟨List.mem_range.2 (by rw [← size]; exact e3), e4⟩
 rw [oneRow] at hm
 obtain rfl := List.mem_singleton.1 hm
 have hh : typeHandle Tryd.prog 37 = .pointer (some ⟨10, 37, none⟩) := by kernel_rfl
 rw [hh] at e5
 simpa using World.var?_cell et e5 0

theorem cellsRB : Tryd.prog.cellsOf 49 = 2 := by kernel_rfl
theorem cellsI : Tryd.prog.cellsOf 2 = 1 := by kernel_rfl
theorem gAll : Tryd.prog.globalNamed "gatehouse/gatehouseref.all" = some 4 := by kernel_rfl
theorem tAll : (Tryd.prog.globals[(4 : Nat)]?).map (·.type) = some 49 := by kernel_rfl
/-- what the condition gives the walk: the other variable's two cells -/
theorem all_of_laid {W : World} (h : laidMetH Tryd.prog Rows.verifyGoesRow.laid W) : Go.Proofs.YtfpoicdfkjbknaaDoor.W.AllAt W := by
 have h' : laidMet Tryd.prog [("gatehouse/gatehouseref.all", Rows.laid_gatehouse_gatehouseref_all)] W ∧ handlesMet Tryd.prog [("errors.errorType", Rows.laid_errors_errorType)] W := h
 obtain ⟨g, t, cs, fuel, p, e1, e2, e3, e4⟩ := Lib.laidMet.reads h'.1 (n := "gatehouse/gatehouseref.all") (d := Rows.laid_gatehouse_gatehouseref_all) (List.mem_singleton.2 rfl)
 obtain rfl := Option.some.inj (gAll.symm.trans e1)
 obtain rfl := Option.some.inj (tAll.symm.trans e2)
 have hc := Lib.ints_of_struct (k := .i64) (zs := [-9223372036854775808, 9223372036854775807]) Tryd.underlying49
  (by intro i f hi; rcases i with _ | _ | i <;> simp at hi <;> subst hi <;> exact ⟨Tryd.underlying2, rfl, cellsI⟩) cellsRB e4
 obtain ⟨l⟩ := cs
 have hl : l = [Value.int .i64 (-9223372036854775808), Value.int .i64 9223372036854775807] := hc
 subst hl
 have h0 := World.var?_cell gAll e3 0
 have h1 := World.var?_cell gAll e3 1
 exact ⟨h0, h1⟩

/-- the door's own heap meets the condition -/
theorem door_met (os : Os) (args : Array Value) : laidMetH Tryd.prog Rows.verifyGoesRow.laid ((World.doorLaid Tryd.prog 400 os).forCall (fun _ _ => 0) ⟨#[], args, []⟩).memory :=
 laidMetH_of_parts3 (fuel := 8) (laidMet_of_run' 8 (by kernel_rfl) (by kernel_rfl)) (by kernel_rfl) (by kernel_rfl)

/-! the row's step -/
set_option maxRecDepth 100000 in
theorem lifted (os : Os) (started : os.Started) (H : Type) (enc : TypeId × Value → H) :
  ReturnsInHanded {} Tryd.checked os 5 .any (fun w args => (Rows.verifyGoesSpec.pre enc Tryd.prog Tryd.f5 [] false w args ∧ laidMetH Tryd.prog Rows.verifyGoesRow.laid w) ∧ sizedMet enc Tryd.prog Tryd.f5 (OpenSpec.ofChange Rows.verifyGoesSpec) false w args)
   (Rows.verifyGoesSpec.post enc Tryd.prog Tryd.f5 false true false false) := by
 refine returnsInHanded_of_change_and (C := Tryd.checked) (X := fun w _ => laidMetH Tryd.prog Rows.verifyGoesRow.laid w) (fun _ _ _ hh h => h.of_heap hh) own started (by kernel_rfl) Tryd.func5
  (ChangeSpec.witness_shaped (enc := enc) (C := Tryd.checked) (os := os) (X := fun w _ => laidMetH Tryd.prog Rows.verifyGoesRow.laid w) false (World.doorLaid Tryd.prog 400 os) #[.slice none 0 0] 8 rfl (World.shaped_of_RefB (by kernel_rfl) (by kernel_rfl)) (by kernel_rfl) (by kernel_rfl) (by kernel_rfl) (door_met os _)) ?_
 intro W base args ds gs before hval0 hW _ _ hL _
 have hval : ∀ (j : Nat) t v, Tryd.f5.params[j]? = some t → args[j]? = some v → Value.okWide Tryd.prog W .any base t v := hval0
 have hW' := hW
 obtain ⟨p, q, hA0, hV, rfl, hfz, hnd⟩ := hW
 have hA : DataW.TrodAll enc Tryd.prog W 0 (fun _ => true) true Tryd.f5.params.toList args.toList ds p := hA0
 rw [Tryd.params5] at hA hval
 obtain ⟨v0, vs0, d0, ds0, p0, q0, hargs, rfl, rfl, h0, r0⟩ := trodAll_cons hA
 obtain ⟨rfl, rfl, rfl⟩ := trodAll_nil r0
 obtain rfl : args = #[v0] := by cases args; simp_all
 obtain ⟨rfl, rfl⟩ := trodVars_none hV
 obtain ⟨a0, len0, cap0, rfl⟩ := okWide_slice Tryd.underlying22 (hval 0 22 v0 rfl rfl)
 have hg := handle_of_laid hL
 have ha := all_of_laid hL
 have hlt : ∀ x ∈ p0 ++ [], x.block < W.heap.size := fun x hx => hW'.lt x (by simpa using hx)
 have fin : ∀ W' : World, Below W.heap.size W W' → Rows.verifyGoesSpec.post enc Tryd.prog Tryd.f5 false true false false W #[.slice a0 len0 cap0] (.bool true) W' := fun W' hb =>
  Go.Proofs.YtfpoicdfkjbknaaDoor.W.post_old (pa := p0 ++ []) (pv := []) hb hW' rfl (fun _ _ _ => (trodAll_cons_mk (shut_bool Tryd.underlying4 _) trodAll_mk0))
   (fun sp hsp => trodAll_cons_mk (WideElems.Trod_stays laidOut (by kernel_rfl) (of_decide_eq_true (by kernel_rfl)) h0 (fun x hx => hb.same (hlt x (by simp [hx]))) (fun x hx => hsp x (by simp [hx]))) trodAll_mk0)
   (fun _ _ => rfl) (ok_one (by kernel_rfl) rfl (okWide_bool_mk Tryd.underlying4 _))
 clear hA0 hval0
 obtain ⟨fuel, hf⟩ := h0
 have main : len0 ≤ cap0 ∧ ∃ S, Go.Proofs.YtfpoicdfkjbknaaDoor.W.ProgAt W a0 S len0 ∧ ∀ j, j < len0 → P.In64 (S j).off ∧ P.In64 (S j).num := by
  rcases steps_of_reads (show DataW.trod enc Tryd.prog W 0 (fun _ => true) true fuel 22 [.slice a0 len0 cap0] = some (d0, p0) by simpa [Value.cells] using hf) with h1 | ⟨a, len, cap, S, h1, hl, hs, hi⟩
  ·simp only [Value.slice.injEq] at h1
   obtain ⟨rfl, rfl, rfl⟩ := h1
   exact ⟨Nat.le_refl _, fun _ => ⟨0, 0, 0, false, 0, 0⟩, fun h => by omega, fun j h => by omega⟩
  ·simp only [Value.slice.injEq] at h1
   obtain ⟨rfl, rfl, rfl⟩ := h1
   exact ⟨hl, S, fun _ => ⟨a, rfl, hs⟩, hi⟩
 obtain ⟨hcap, S, hs, hin⟩ := main
 by_cases hbig : 300 < len0
 ·refine (Go.Proofs.YtfpoicdfkjbknaaDoor.W.verifyGoes_big a0 len0 cap0 hbig W).mono fun e W' ⟨he, hb⟩ => ?_
  subst he
  exact ⟨_, rfl, fin W' hb⟩
 ·refine (Go.Proofs.YtfpoicdfkjbknaaDoor.W.verifyGoes_walk a0 len0 cap0 S hcap hbig W hs hin hg ha).mono fun e W' ⟨he, hb⟩ => ?_
  subst he
  exact ⟨_, rfl, fin W' hb⟩

theorem over : Rows.VerifyGoesSaid :=
 OpenClaim.holds_of_wide 5 Tryd.f5 rfl rfl rfl rfl rfl rfl rfl ⟨rfl, rfl, rfl, rfl, rfl⟩ rfl rfl rfl rfl rfl (by kernel_rfl) Tryd.func5 (by kernel_rfl)
  (of_decide_eq_true (by kernel_rfl)) (by unfold Func.isWrapper; first | (rw [if_pos (by decide +kernel)]; kernel_rfl) | (rw [if_neg (by decide +kernel)]; exact ⟨rfl, rfl⟩))
  (fun os started H enc _ => lifted os started H enc)

/-- THE STATEMENT: the tied card -/
theorem proved : Rows.VerifyGoesCardSaid :=
 Claim7.holds_tied_plain_at .later [] [.handle, .data] true _ true
  over (fun _ h => by cases h) (by kernel_rfl) (fun _ h => by cases h) verifyGoes_row_tie rfl ⟨rfl, rfl⟩ (by kernel_rfl) rfl
  (fun f fn hf hfn => by
   obtain rfl : f = 5 := Option.some.inj ((show Tryd.prog.funcNamed "gatehouse/gatehouselaw.VerifyGoes" = some 5 by kernel_rfl).symm.trans hf) |>.symm
   obtain rfl : fn = Tryd.f5 := (Option.some.inj (Tryd.func5.symm.trans hfn)).symm
   refine ⟨by kernel_rfl, fun j t ht => ?_⟩
   rw [Tryd.params5] at ht
   rcases j with _ | j <;> simp at ht <;> subst ht <;> kernel_rfl)
  (by kernel_rfl)
#print axioms proved
end Go.Proofs.YtfpoicdfkjbknaaDoor.verifyGoes
