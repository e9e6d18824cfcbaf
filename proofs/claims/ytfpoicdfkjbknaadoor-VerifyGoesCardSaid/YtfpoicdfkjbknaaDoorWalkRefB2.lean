/- The walk of the reference's BoundDoes, code by code: it is between the numbers that package bound says. Conditions: the ends are int64's in order; the variable 'all' holds all numbers. -/
import Derived.Test.YtfpoicdfkjbknaaDoorWalkRefB
import Derived.Deep.QuietTactic
import Derived.BigQuiet
namespace Go.Proofs.YtfpoicdfkjbknaaDoor.W
open Go.RowKit Go.Proofs.YtfpoicdfkjbknaaDoor.P
set_option linter.unusedSimpArgs false
set_option linter.unusedVariables false

/-- a callee that draws nothing, met behind draws -/
theorem quiet_at {P : Program} {f : FuncId} {args : Array Value} {w : World} {k n : Nat} {v : Value} (h : Calls P f args (w.drewN (k + n)) fun e w' => e = .returned v ∧ w.drewN (k + n) = w') :
  Calls P f args (w.drewN (k + n)) fun e w' => e = .returned v ∧ ∃ m, w' = w.drewN (k + m) := h.mono fun _ _ ⟨he, hm⟩ => ⟨he, n, hm.symm⟩

set_option maxRecDepth 100000 in
set_option maxHeartbeats 4000000 in
theorem RefB_1 (al ah bl bh : Int) (ia : In64 al) (ia2 : In64 ah) (ib : In64 bl) (ib2 : In64 bh) (ha : al ≤ ah) (hb : bl ≤ bh) (w : World) (hg0 : w.cell? ⟨4, 0, none⟩ = some (.int .i64 (-9223372036854775808))) (hg1 : w.cell? ⟨4, 1, none⟩ = some (.int .i64 9223372036854775807)) (gz : 4 < w.heap.size) :
  Calls Tryd.prog 79 #[.int .i64 1, .agg #[.int .i64 al, .int .i64 ah], .agg #[.int .i64 bl, .int .i64 bh]] w fun e w' => e = .returned (.agg #[.int .i64 ((bdoes 1 ⟨al, ah⟩ ⟨bl, bh⟩).lo), .int .i64 ((bdoes 1 ⟨al, ah⟩ ⟨bl, bh⟩).hi)]) ∧ Below w.heap.size w w' := by
 have HW0 := Lib.hid (Below.refl w.heap.size w); (try have gq1 : 4 < w.heap.size + 1 := by omega); (try have gq2 : 4 < w.heap.size + 1 + 1 := by omega); (try have gq3 : 4 < w.heap.size + 1 + 1 + 1 := by omega); (try have gq4 : 4 < w.heap.size + 1 + 1 + 1 + 1 := by omega); (try have gq5 : 4 < w.heap.size + 1 + 1 + 1 + 1 + 1 := by omega); (try have gq6 : 4 < w.heap.size + 1 + 1 + 1 + 1 + 1 + 1 := by omega); (try have gq7 : 4 < w.heap.size + 1 + 1 + 1 + 1 + 1 + 1 + 1 := by omega)
 by_cases p0 : 0 ≤ al
 ·have e : bdoes 1 ⟨al, ah⟩ ⟨bl, bh⟩ = ⟨bl, bh⟩ := rfl
  rw [e]
  clear e
  clear ia ia2 ib ib2 ha hb
  go_enter Tryd.func79, Tryd.ntmps79
  go_wp2_with fail
  exact bodyPost_ret (v := .agg #[.int .i64 (bl), .int .i64 (bh)]) (by simp [results, Tryd.results79, go_sem, hg0, hg1, gz]) rfl ⟨rfl, (by repeat' (first | with_reducible (first | exact HW0.out | apply bR | apply bD | apply bN | apply bA | apply bS) | (simp; done) | (simp; omega) | omega))⟩
 ·have e : bdoes 1 ⟨al, ah⟩ ⟨bl, bh⟩ = ⟨bl, bh⟩ := rfl
  rw [e]
  clear e
  clear ia ia2 ib ib2 ha hb
  go_enter Tryd.func79, Tryd.ntmps79
  go_wp2_with fail
  exact bodyPost_ret (v := .agg #[.int .i64 (bl), .int .i64 (bh)]) (by simp [results, Tryd.results79, go_sem, hg0, hg1, gz]) rfl ⟨rfl, (by repeat' (first | with_reducible (first | exact HW0.out | apply bR | apply bD | apply bN | apply bA | apply bS) | (simp; done) | (simp; omega) | omega))⟩

set_option maxRecDepth 100000 in
set_option maxHeartbeats 4000000 in
theorem RefB_2 (al ah bl bh : Int) (ia : In64 al) (ia2 : In64 ah) (ib : In64 bl) (ib2 : In64 bh) (ha : al ≤ ah) (hb : bl ≤ bh) (w : World) (hg0 : w.cell? ⟨4, 0, none⟩ = some (.int .i64 (-9223372036854775808))) (hg1 : w.cell? ⟨4, 1, none⟩ = some (.int .i64 9223372036854775807)) (gz : 4 < w.heap.size) :
  Calls Tryd.prog 79 #[.int .i64 2, .agg #[.int .i64 al, .int .i64 ah], .agg #[.int .i64 bl, .int .i64 bh]] w fun e w' => e = .returned (.agg #[.int .i64 ((bdoes 2 ⟨al, ah⟩ ⟨bl, bh⟩).lo), .int .i64 ((bdoes 2 ⟨al, ah⟩ ⟨bl, bh⟩).hi)]) ∧ Below w.heap.size w w' := by
 have HW0 := Lib.hid (Below.refl w.heap.size w); (try have gq1 : 4 < w.heap.size + 1 := by omega); (try have gq2 : 4 < w.heap.size + 1 + 1 := by omega); (try have gq3 : 4 < w.heap.size + 1 + 1 + 1 := by omega); (try have gq4 : 4 < w.heap.size + 1 + 1 + 1 + 1 := by omega); (try have gq5 : 4 < w.heap.size + 1 + 1 + 1 + 1 + 1 := by omega); (try have gq6 : 4 < w.heap.size + 1 + 1 + 1 + 1 + 1 + 1 := by omega); (try have gq7 : 4 < w.heap.size + 1 + 1 + 1 + 1 + 1 + 1 + 1 := by omega)
 by_cases p0 : 0 ≤ al
 ·have e' : bdoes 2 ⟨al, ah⟩ ⟨bl, bh⟩ = rbadd ⟨al, ah⟩ ⟨bl, bh⟩ := (rbadd_eq (a := ⟨al, ah⟩) (b := ⟨bl, bh⟩) ⟨ia, ia2, ha⟩ ⟨ib, ib2, hb⟩).symm
  rw [e']; clear e'
  unfold rbadd; simp only
  have IB := Lib.hid ib; have IB2 := Lib.hid ib2; clear ia ia2 ib ib2 ha hb
  generalize h1 : radd al bl = s1
  generalize h2 : radd ah bh = s2
  have H1 := Lib.hid h1; have H2 := Lib.hid h2; clear h1 h2
  obtain ⟨v1, b1⟩ := s1; obtain ⟨v2, b2⟩ := s2
  cases b1 <;> cases b2
  ·go_enter Tryd.func79, Tryd.ntmps79
   go_wp2_with fail
   refine (RefAdd_any _ _ IB.out _).mono ?_
   rw [H1.out]
   rintro e w' ⟨rfl, rfl⟩
   go_wp2_with fail
   refine (RefAdd_any _ _ IB2.out _).mono ?_
   rw [H2.out]
   rintro e w' ⟨rfl, rfl⟩
   go_wp2_with fail
   exact bodyPost_ret (v := .agg #[.int .i64 ((-9223372036854775808)), .int .i64 (9223372036854775807)]) (by simp [results, Tryd.results79, go_sem, hg0, hg1, gz]) rfl ⟨by first | rfl | (simp; done) | (simp [ball]; done), (by repeat' (first | with_reducible (first | exact HW0.out | apply bR | apply bD | apply bN | apply bA | apply bS) | (simp; done) | (simp; omega) | omega))⟩
  ·go_enter Tryd.func79, Tryd.ntmps79
   go_wp2_with fail
   refine (RefAdd_any _ _ IB.out _).mono ?_
   rw [H1.out]
   rintro e w' ⟨rfl, rfl⟩
   go_wp2_with fail
   refine (RefAdd_any _ _ IB2.out _).mono ?_
   rw [H2.out]
   rintro e w' ⟨rfl, rfl⟩
   go_wp2_with fail
   exact bodyPost_ret (v := .agg #[.int .i64 ((-9223372036854775808)), .int .i64 (9223372036854775807)]) (by simp [results, Tryd.results79, go_sem, hg0, hg1, gz]) rfl ⟨by first | rfl | (simp; done) | (simp [ball]; done), (by repeat' (first | with_reducible (first | exact HW0.out | apply bR | apply bD | apply bN | apply bA | apply bS) | (simp; done) | (simp; omega) | omega))⟩
  ·go_enter Tryd.func79, Tryd.ntmps79
   go_wp2_with fail
   refine (RefAdd_any _ _ IB.out _).mono ?_
   rw [H1.out]
   rintro e w' ⟨rfl, rfl⟩
   go_wp2_with fail
   refine (RefAdd_any _ _ IB2.out _).mono ?_
   rw [H2.out]
   rintro e w' ⟨rfl, rfl⟩
   go_wp2_with fail
   exact bodyPost_ret (v := .agg #[.int .i64 ((-9223372036854775808)), .int .i64 (9223372036854775807)]) (by simp [results, Tryd.results79, go_sem, hg0, hg1, gz]) rfl ⟨by first | rfl | (simp; done) | (simp [ball]; done), (by repeat' (first | with_reducible (first | exact HW0.out | apply bR | apply bD | apply bN | apply bA | apply bS) | (simp; done) | (simp; omega) | omega))⟩
  ·go_enter Tryd.func79, Tryd.ntmps79
   go_wp2_with fail
   refine (RefAdd_any _ _ IB.out _).mono ?_
   rw [H1.out]
   rintro e w' ⟨rfl, rfl⟩
   go_wp2_with fail
   refine (RefAdd_any _ _ IB2.out _).mono ?_
   rw [H2.out]
   rintro e w' ⟨rfl, rfl⟩
   go_wp2_with fail
   exact bodyPost_ret (v := .agg #[.int .i64 (v1), .int .i64 (v2)]) (by simp [results, Tryd.results79, go_sem, hg0, hg1, gz]) rfl ⟨by first | rfl | (simp; done) | (simp [ball]; done), (by repeat' (first | with_reducible (first | exact HW0.out | apply bR | apply bD | apply bN | apply bA | apply bS) | (simp; done) | (simp; omega) | omega))⟩
 ·have e' : bdoes 2 ⟨al, ah⟩ ⟨bl, bh⟩ = rbadd ⟨al, ah⟩ ⟨bl, bh⟩ := (rbadd_eq (a := ⟨al, ah⟩) (b := ⟨bl, bh⟩) ⟨ia, ia2, ha⟩ ⟨ib, ib2, hb⟩).symm
  rw [e']; clear e'
  unfold rbadd; simp only
  have IB := Lib.hid ib; have IB2 := Lib.hid ib2; clear ia ia2 ib ib2 ha hb
  generalize h1 : radd al bl = s1
  generalize h2 : radd ah bh = s2
  have H1 := Lib.hid h1; have H2 := Lib.hid h2; clear h1 h2
  obtain ⟨v1, b1⟩ := s1; obtain ⟨v2, b2⟩ := s2
  cases b1 <;> cases b2
  ·go_enter Tryd.func79, Tryd.ntmps79
   go_wp2_with fail
   refine (RefAdd_any _ _ IB.out _).mono ?_
   rw [H1.out]
   rintro e w' ⟨rfl, rfl⟩
   go_wp2_with fail
   refine (RefAdd_any _ _ IB2.out _).mono ?_
   rw [H2.out]
   rintro e w' ⟨rfl, rfl⟩
   go_wp2_with fail
   exact bodyPost_ret (v := .agg #[.int .i64 ((-9223372036854775808)), .int .i64 (9223372036854775807)]) (by simp [results, Tryd.results79, go_sem, hg0, hg1, gz]) rfl ⟨by first | rfl | (simp; done) | (simp [ball]; done), (by repeat' (first | with_reducible (first | exact HW0.out | apply bR | apply bD | apply bN | apply bA | apply bS) | (simp; done) | (simp; omega) | omega))⟩
  ·go_enter Tryd.func79, Tryd.ntmps79
   go_wp2_with fail
   refine (RefAdd_any _ _ IB.out _).mono ?_
   rw [H1.out]
   rintro e w' ⟨rfl, rfl⟩
   go_wp2_with fail
   refine (RefAdd_any _ _ IB2.out _).mono ?_
   rw [H2.out]
   rintro e w' ⟨rfl, rfl⟩
   go_wp2_with fail
   exact bodyPost_ret (v := .agg #[.int .i64 ((-9223372036854775808)), .int .i64 (9223372036854775807)]) (by simp [results, Tryd.results79, go_sem, hg0, hg1, gz]) rfl ⟨by first | rfl | (simp; done) | (simp [ball]; done), (by repeat' (first | with_reducible (first | exact HW0.out | apply bR | apply bD | apply bN | apply bA | apply bS) | (simp; done) | (simp; omega) | omega))⟩
  ·go_enter Tryd.func79, Tryd.ntmps79
   go_wp2_with fail
   refine (RefAdd_any _ _ IB.out _).mono ?_
   rw [H1.out]
   rintro e w' ⟨rfl, rfl⟩
   go_wp2_with fail
   refine (RefAdd_any _ _ IB2.out _).mono ?_
   rw [H2.out]
   rintro e w' ⟨rfl, rfl⟩
   go_wp2_with fail
   exact bodyPost_ret (v := .agg #[.int .i64 ((-9223372036854775808)), .int .i64 (9223372036854775807)]) (by simp [results, Tryd.results79, go_sem, hg0, hg1, gz]) rfl ⟨by first | rfl | (simp; done) | (simp [ball]; done), (by repeat' (first | with_reducible (first | exact HW0.out | apply bR | apply bD | apply bN | apply bA | apply bS) | (simp; done) | (simp; omega) | omega))⟩
  ·go_enter Tryd.func79, Tryd.ntmps79
   go_wp2_with fail
   refine (RefAdd_any _ _ IB.out _).mono ?_
   rw [H1.out]
   rintro e w' ⟨rfl, rfl⟩
   go_wp2_with fail
   refine (RefAdd_any _ _ IB2.out _).mono ?_
   rw [H2.out]
   rintro e w' ⟨rfl, rfl⟩
   go_wp2_with fail
   exact bodyPost_ret (v := .agg #[.int .i64 (v1), .int .i64 (v2)]) (by simp [results, Tryd.results79, go_sem, hg0, hg1, gz]) rfl ⟨by first | rfl | (simp; done) | (simp [ball]; done), (by repeat' (first | with_reducible (first | exact HW0.out | apply bR | apply bD | apply bN | apply bA | apply bS) | (simp; done) | (simp; omega) | omega))⟩

set_option maxRecDepth 100000 in
set_option maxHeartbeats 4000000 in
theorem RefB_3 (al ah bl bh : Int) (ia : In64 al) (ia2 : In64 ah) (ib : In64 bl) (ib2 : In64 bh) (ha : al ≤ ah) (hb : bl ≤ bh) (w : World) (hg0 : w.cell? ⟨4, 0, none⟩ = some (.int .i64 (-9223372036854775808))) (hg1 : w.cell? ⟨4, 1, none⟩ = some (.int .i64 9223372036854775807)) (gz : 4 < w.heap.size) :
  Calls Tryd.prog 79 #[.int .i64 3, .agg #[.int .i64 al, .int .i64 ah], .agg #[.int .i64 bl, .int .i64 bh]] w fun e w' => e = .returned (.agg #[.int .i64 ((bdoes 3 ⟨al, ah⟩ ⟨bl, bh⟩).lo), .int .i64 ((bdoes 3 ⟨al, ah⟩ ⟨bl, bh⟩).hi)]) ∧ Below w.heap.size w w' := by
 have HW0 := Lib.hid (Below.refl w.heap.size w); (try have gq1 : 4 < w.heap.size + 1 := by omega); (try have gq2 : 4 < w.heap.size + 1 + 1 := by omega); (try have gq3 : 4 < w.heap.size + 1 + 1 + 1 := by omega); (try have gq4 : 4 < w.heap.size + 1 + 1 + 1 + 1 := by omega); (try have gq5 : 4 < w.heap.size + 1 + 1 + 1 + 1 + 1 := by omega); (try have gq6 : 4 < w.heap.size + 1 + 1 + 1 + 1 + 1 + 1 := by omega); (try have gq7 : 4 < w.heap.size + 1 + 1 + 1 + 1 + 1 + 1 + 1 := by omega)
 by_cases p0 : 0 ≤ al
 ·have e' : bdoes 3 ⟨al, ah⟩ ⟨bl, bh⟩ = rbsub ⟨al, ah⟩ ⟨bl, bh⟩ := (rbsub_eq (a := ⟨al, ah⟩) (b := ⟨bl, bh⟩) ⟨ia, ia2, ha⟩ ⟨ib, ib2, hb⟩).symm
  rw [e']; clear e'
  unfold rbsub; simp only
  have IB := Lib.hid ib; have IB2 := Lib.hid ib2; clear ia ia2 ib ib2 ha hb
  generalize h1 : rsub al bh = s1
  generalize h2 : rsub ah bl = s2
  have H1 := Lib.hid h1; have H2 := Lib.hid h2; clear h1 h2
  obtain ⟨v1, b1⟩ := s1; obtain ⟨v2, b2⟩ := s2
  cases b1 <;> cases b2
  ·go_enter Tryd.func79, Tryd.ntmps79
   go_wp2_with fail
   refine (RefSub_any _ _ IB2.out _).mono ?_
   rw [H1.out]
   rintro e w' ⟨rfl, rfl⟩
   go_wp2_with fail
   refine (RefSub_any _ _ IB.out _).mono ?_
   rw [H2.out]
   rintro e w' ⟨rfl, rfl⟩
   go_wp2_with fail
   exact bodyPost_ret (v := .agg #[.int .i64 ((-9223372036854775808)), .int .i64 (9223372036854775807)]) (by simp [results, Tryd.results79, go_sem, hg0, hg1, gz]) rfl ⟨by first | rfl | (simp; done) | (simp [ball]; done), (by repeat' (first | with_reducible (first | exact HW0.out | apply bR | apply bD | apply bN | apply bA | apply bS) | (simp; done) | (simp; omega) | omega))⟩
  ·go_enter Tryd.func79, Tryd.ntmps79
   go_wp2_with fail
   refine (RefSub_any _ _ IB2.out _).mono ?_
   rw [H1.out]
   rintro e w' ⟨rfl, rfl⟩
   go_wp2_with fail
   refine (RefSub_any _ _ IB.out _).mono ?_
   rw [H2.out]
   rintro e w' ⟨rfl, rfl⟩
   go_wp2_with fail
   exact bodyPost_ret (v := .agg #[.int .i64 ((-9223372036854775808)), .int .i64 (9223372036854775807)]) (by simp [results, Tryd.results79, go_sem, hg0, hg1, gz]) rfl ⟨by first | rfl | (simp; done) | (simp [ball]; done), (by repeat' (first | with_reducible (first | exact HW0.out | apply bR | apply bD | apply bN | apply bA | apply bS) | (simp; done) | (simp; omega) | omega))⟩
  ·go_enter Tryd.func79, Tryd.ntmps79
   go_wp2_with fail
   refine (RefSub_any _ _ IB2.out _).mono ?_
   rw [H1.out]
   rintro e w' ⟨rfl, rfl⟩
   go_wp2_with fail
   refine (RefSub_any _ _ IB.out _).mono ?_
   rw [H2.out]
   rintro e w' ⟨rfl, rfl⟩
   go_wp2_with fail
   exact bodyPost_ret (v := .agg #[.int .i64 ((-9223372036854775808)), .int .i64 (9223372036854775807)]) (by simp [results, Tryd.results79, go_sem, hg0, hg1, gz]) rfl ⟨by first | rfl | (simp; done) | (simp [ball]; done), (by repeat' (first | with_reducible (first | exact HW0.out | apply bR | apply bD | apply bN | apply bA | apply bS) | (simp; done) | (simp; omega) | omega))⟩
  ·go_enter Tryd.func79, Tryd.ntmps79
   go_wp2_with fail
   refine (RefSub_any _ _ IB2.out _).mono ?_
   rw [H1.out]
   rintro e w' ⟨rfl, rfl⟩
   go_wp2_with fail
   refine (RefSub_any _ _ IB.out _).mono ?_
   rw [H2.out]
   rintro e w' ⟨rfl, rfl⟩
   go_wp2_with fail
   exact bodyPost_ret (v := .agg #[.int .i64 (v1), .int .i64 (v2)]) (by simp [results, Tryd.results79, go_sem, hg0, hg1, gz]) rfl ⟨by first | rfl | (simp; done) | (simp [ball]; done), (by repeat' (first | with_reducible (first | exact HW0.out | apply bR | apply bD | apply bN | apply bA | apply bS) | (simp; done) | (simp; omega) | omega))⟩
 ·have e' : bdoes 3 ⟨al, ah⟩ ⟨bl, bh⟩ = rbsub ⟨al, ah⟩ ⟨bl, bh⟩ := (rbsub_eq (a := ⟨al, ah⟩) (b := ⟨bl, bh⟩) ⟨ia, ia2, ha⟩ ⟨ib, ib2, hb⟩).symm
  rw [e']; clear e'
  unfold rbsub; simp only
  have IB := Lib.hid ib; have IB2 := Lib.hid ib2; clear ia ia2 ib ib2 ha hb
  generalize h1 : rsub al bh = s1
  generalize h2 : rsub ah bl = s2
  have H1 := Lib.hid h1; have H2 := Lib.hid h2; clear h1 h2
  obtain ⟨v1, b1⟩ := s1; obtain ⟨v2, b2⟩ := s2
  cases b1 <;> cases b2
  ·go_enter Tryd.func79, Tryd.ntmps79
   go_wp2_with fail
   refine (RefSub_any _ _ IB2.out _).mono ?_
   rw [H1.out]
   rintro e w' ⟨rfl, rfl⟩
   go_wp2_with fail
   refine (RefSub_any _ _ IB.out _).mono ?_
   rw [H2.out]
   rintro e w' ⟨rfl, rfl⟩
   go_wp2_with fail
   exact bodyPost_ret (v := .agg #[.int .i64 ((-9223372036854775808)), .int .i64 (9223372036854775807)]) (by simp [results, Tryd.results79, go_sem, hg0, hg1, gz]) rfl ⟨by first | rfl | (simp; done) | (simp [ball]; done), (by repeat' (first | with_reducible (first | exact HW0.out | apply bR | apply bD | apply bN | apply bA | apply bS) | (simp; done) | (simp; omega) | omega))⟩
  ·go_enter Tryd.func79, Tryd.ntmps79
   go_wp2_with fail
   refine (RefSub_any _ _ IB2.out _).mono ?_
   rw [H1.out]
   rintro e w' ⟨rfl, rfl⟩
   go_wp2_with fail
   refine (RefSub_any _ _ IB.out _).mono ?_
   rw [H2.out]
   rintro e w' ⟨rfl, rfl⟩
   go_wp2_with fail
   exact bodyPost_ret (v := .agg #[.int .i64 ((-9223372036854775808)), .int .i64 (9223372036854775807)]) (by simp [results, Tryd.results79, go_sem, hg0, hg1, gz]) rfl ⟨by first | rfl | (simp; done) | (simp [ball]; done), (by repeat' (first | with_reducible (first | exact HW0.out | apply bR | apply bD | apply bN | apply bA | apply bS) | (simp; done) | (simp; omega) | omega))⟩
  ·go_enter Tryd.func79, Tryd.ntmps79
   go_wp2_with fail
   refine (RefSub_any _ _ IB2.out _).mono ?_
   rw [H1.out]
   rintro e w' ⟨rfl, rfl⟩
   go_wp2_with fail
   refine (RefSub_any _ _ IB.out _).mono ?_
   rw [H2.out]
   rintro e w' ⟨rfl, rfl⟩
   go_wp2_with fail
   exact bodyPost_ret (v := .agg #[.int .i64 ((-9223372036854775808)), .int .i64 (9223372036854775807)]) (by simp [results, Tryd.results79, go_sem, hg0, hg1, gz]) rfl ⟨by first | rfl | (simp; done) | (simp [ball]; done), (by repeat' (first | with_reducible (first | exact HW0.out | apply bR | apply bD | apply bN | apply bA | apply bS) | (simp; done) | (simp; omega) | omega))⟩
  ·go_enter Tryd.func79, Tryd.ntmps79
   go_wp2_with fail
   refine (RefSub_any _ _ IB2.out _).mono ?_
   rw [H1.out]
   rintro e w' ⟨rfl, rfl⟩
   go_wp2_with fail
   refine (RefSub_any _ _ IB.out _).mono ?_
   rw [H2.out]
   rintro e w' ⟨rfl, rfl⟩
   go_wp2_with fail
   exact bodyPost_ret (v := .agg #[.int .i64 (v1), .int .i64 (v2)]) (by simp [results, Tryd.results79, go_sem, hg0, hg1, gz]) rfl ⟨by first | rfl | (simp; done) | (simp [ball]; done), (by repeat' (first | with_reducible (first | exact HW0.out | apply bR | apply bD | apply bN | apply bA | apply bS) | (simp; done) | (simp; omega) | omega))⟩

set_option maxRecDepth 100000 in
set_option maxHeartbeats 4000000 in
theorem RefB_5 (al ah bl bh : Int) (ia : In64 al) (ia2 : In64 ah) (ib : In64 bl) (ib2 : In64 bh) (ha : al ≤ ah) (hb : bl ≤ bh) (w : World) (hg0 : w.cell? ⟨4, 0, none⟩ = some (.int .i64 (-9223372036854775808))) (hg1 : w.cell? ⟨4, 1, none⟩ = some (.int .i64 9223372036854775807)) (gz : 4 < w.heap.size) :
  Calls Tryd.prog 79 #[.int .i64 5, .agg #[.int .i64 al, .int .i64 ah], .agg #[.int .i64 bl, .int .i64 bh]] w fun e w' => e = .returned (.agg #[.int .i64 ((bdoes 5 ⟨al, ah⟩ ⟨bl, bh⟩).lo), .int .i64 ((bdoes 5 ⟨al, ah⟩ ⟨bl, bh⟩).hi)]) ∧ Below w.heap.size w w' := by
 have HW0 := Lib.hid (Below.refl w.heap.size w); (try have gq1 : 4 < w.heap.size + 1 := by omega); (try have gq2 : 4 < w.heap.size + 1 + 1 := by omega); (try have gq3 : 4 < w.heap.size + 1 + 1 + 1 := by omega); (try have gq4 : 4 < w.heap.size + 1 + 1 + 1 + 1 := by omega); (try have gq5 : 4 < w.heap.size + 1 + 1 + 1 + 1 + 1 := by omega); (try have gq6 : 4 < w.heap.size + 1 + 1 + 1 + 1 + 1 + 1 := by omega); (try have gq7 : 4 < w.heap.size + 1 + 1 + 1 + 1 + 1 + 1 + 1 := by omega)
 by_cases h1 : 0 ≤ al
 ·by_cases h2 : 0 ≤ bl
  ·by_cases h3 : 0 < bl
   ·have e : bdoes 5 ⟨al, ah⟩ ⟨bl, bh⟩ = ⟨al / bh, ah / bl⟩ := (rbdiv_eq 5 ⟨al, ah⟩ ⟨bl, bh⟩).symm.trans (by unfold rbdiv; simp only; rw [if_pos (by omega)]; exact if_pos trivial)
    rw [e]
    clear e
    have a1 : 0 ≤ ah := by omega
    have a2 : 1 ≤ bl := by omega
    have a3 : 1 ≤ bh := by omega
    have a4 : al ≤ 9223372036854775807 := ia.2
    have a5 : ah ≤ 9223372036854775807 := ia2.2
    have a6 : ¬ bl = 0 := by omega
    have a7 : ¬ bh = 0 := by omega
    clear ia ia2 ib ib2 ha hb
    go_enter Tryd.func79, Tryd.ntmps79
    go_wp2_with fail
    refine wp_tail 11 (by kernel_rfl) (by kernel_rfl) ?_
    simp only [List.take_succ_cons, List.take_zero, List.drop_succ_cons, List.drop_zero]
    repeat (still_step; try go_bits)
    refine wpStill_nil ?_
    go_wp2_with fail
    exact bodyPost_ret (v := .agg #[.int .i64 (al / bh), .int .i64 (ah / bl)]) (by simp [results, Tryd.results79, go_sem, hg0, hg1, gz]) rfl ⟨rfl, (by repeat' (first | with_reducible (first | exact HW0.out | apply bR | apply bD | apply bN | apply bA | apply bS) | (simp; done) | (simp; omega) | omega))⟩
   ·have e : bdoes 5 ⟨al, ah⟩ ⟨bl, bh⟩ = ⟨0, ah⟩ := (rbdiv_eq 5 ⟨al, ah⟩ ⟨bl, bh⟩).symm.trans (by unfold rbdiv; simp only; rw [if_neg (by omega), if_pos (by omega)])
    rw [e]
    clear e
    clear ia ia2 ib ib2 ha hb
    go_enter Tryd.func79, Tryd.ntmps79
    go_wp2_with fail
    exact bodyPost_ret (v := .agg #[.int .i64 (0), .int .i64 (ah)]) (by simp [results, Tryd.results79, go_sem, hg0, hg1, gz]) rfl ⟨rfl, (by repeat' (first | with_reducible (first | exact HW0.out | apply bR | apply bD | apply bN | apply bA | apply bS) | (simp; done) | (simp; omega) | omega))⟩
  ·have e : bdoes 5 ⟨al, ah⟩ ⟨bl, bh⟩ = ⟨(-9223372036854775808), 9223372036854775807⟩ := (rbdiv_eq 5 ⟨al, ah⟩ ⟨bl, bh⟩).symm.trans (by unfold rbdiv; simp only; rw [if_neg (by omega), if_neg (by omega)]; rfl)
   rw [e]
   clear e
   clear ia ia2 ib ib2 ha hb
   go_enter Tryd.func79, Tryd.ntmps79
   go_wp2_with fail
   exact bodyPost_ret (v := .agg #[.int .i64 ((-9223372036854775808)), .int .i64 (9223372036854775807)]) (by simp [results, Tryd.results79, go_sem, hg0, hg1, gz]) rfl ⟨rfl, (by repeat' (first | with_reducible (first | exact HW0.out | apply bR | apply bD | apply bN | apply bA | apply bS) | (simp; done) | (simp; omega) | omega))⟩
 ·have e : bdoes 5 ⟨al, ah⟩ ⟨bl, bh⟩ = ⟨(-9223372036854775808), 9223372036854775807⟩ := (rbdiv_eq 5 ⟨al, ah⟩ ⟨bl, bh⟩).symm.trans (by unfold rbdiv; simp only; rw [if_neg (by omega), if_neg (by omega)]; rfl)
  rw [e]
  clear e
  clear ia ia2 ib ib2 ha hb
  go_enter Tryd.func79, Tryd.ntmps79
  go_wp2_with fail
  exact bodyPost_ret (v := .agg #[.int .i64 ((-9223372036854775808)), .int .i64 (9223372036854775807)]) (by simp [results, Tryd.results79, go_sem, hg0, hg1, gz]) rfl ⟨rfl, (by repeat' (first | with_reducible (first | exact HW0.out | apply bR | apply bD | apply bN | apply bA | apply bS) | (simp; done) | (simp; omega) | omega))⟩

set_option maxRecDepth 100000 in
set_option maxHeartbeats 4000000 in
theorem RefB_6 (al ah bl bh : Int) (ia : In64 al) (ia2 : In64 ah) (ib : In64 bl) (ib2 : In64 bh) (ha : al ≤ ah) (hb : bl ≤ bh) (w : World) (hg0 : w.cell? ⟨4, 0, none⟩ = some (.int .i64 (-9223372036854775808))) (hg1 : w.cell? ⟨4, 1, none⟩ = some (.int .i64 9223372036854775807)) (gz : 4 < w.heap.size) :
  Calls Tryd.prog 79 #[.int .i64 6, .agg #[.int .i64 al, .int .i64 ah], .agg #[.int .i64 bl, .int .i64 bh]] w fun e w' => e = .returned (.agg #[.int .i64 ((bdoes 6 ⟨al, ah⟩ ⟨bl, bh⟩).lo), .int .i64 ((bdoes 6 ⟨al, ah⟩ ⟨bl, bh⟩).hi)]) ∧ Below w.heap.size w w' := by
 have HW0 := Lib.hid (Below.refl w.heap.size w); (try have gq1 : 4 < w.heap.size + 1 := by omega); (try have gq2 : 4 < w.heap.size + 1 + 1 := by omega); (try have gq3 : 4 < w.heap.size + 1 + 1 + 1 := by omega); (try have gq4 : 4 < w.heap.size + 1 + 1 + 1 + 1 := by omega); (try have gq5 : 4 < w.heap.size + 1 + 1 + 1 + 1 + 1 := by omega); (try have gq6 : 4 < w.heap.size + 1 + 1 + 1 + 1 + 1 + 1 := by omega); (try have gq7 : 4 < w.heap.size + 1 + 1 + 1 + 1 + 1 + 1 + 1 := by omega)
 by_cases h1 : 0 ≤ al
 ·by_cases h2 : 0 ≤ bl
  ·by_cases h3 : 0 < bl
   ·have e : bdoes 6 ⟨al, ah⟩ ⟨bl, bh⟩ = ⟨0, min ah (bh - 1)⟩ := (rbdiv_eq 6 ⟨al, ah⟩ ⟨bl, bh⟩).symm.trans (by unfold rbdiv; simp only; rw [if_pos (by omega), if_neg (by omega)])
    rw [e]
    clear e
    have a4 : bh - 1 ≤ 9223372036854775807 := by have := ib2.2; omega
    have a5 : -9223372036854775808 ≤ bh - 1 := by omega
    clear ia ia2 ib ib2 ha hb
    go_enter Tryd.func79, Tryd.ntmps79
    go_wp2_with fail
    exact bodyPost_ret (v := .agg #[.int .i64 (0), .int .i64 (min ah (bh - 1))]) (by simp [results, Tryd.results79, go_sem, hg0, hg1, gz]) rfl ⟨rfl, (by repeat' (first | with_reducible (first | exact HW0.out | apply bR | apply bD | apply bN | apply bA | apply bS) | (simp; done) | (simp; omega) | omega))⟩
   ·have e : bdoes 6 ⟨al, ah⟩ ⟨bl, bh⟩ = ⟨0, ah⟩ := (rbdiv_eq 6 ⟨al, ah⟩ ⟨bl, bh⟩).symm.trans (by unfold rbdiv; simp only; rw [if_neg (by omega), if_pos (by omega)])
    rw [e]
    clear e
    clear ia ia2 ib ib2 ha hb
    go_enter Tryd.func79, Tryd.ntmps79
    go_wp2_with fail
    exact bodyPost_ret (v := .agg #[.int .i64 (0), .int .i64 (ah)]) (by simp [results, Tryd.results79, go_sem, hg0, hg1, gz]) rfl ⟨rfl, (by repeat' (first | with_reducible (first | exact HW0.out | apply bR | apply bD | apply bN | apply bA | apply bS) | (simp; done) | (simp; omega) | omega))⟩
  ·have e : bdoes 6 ⟨al, ah⟩ ⟨bl, bh⟩ = ⟨(-9223372036854775808), 9223372036854775807⟩ := (rbdiv_eq 6 ⟨al, ah⟩ ⟨bl, bh⟩).symm.trans (by unfold rbdiv; simp only; rw [if_neg (by omega), if_neg (by omega)]; rfl)
   rw [e]
   clear e
   clear ia ia2 ib ib2 ha hb
   go_enter Tryd.func79, Tryd.ntmps79
   go_wp2_with fail
   exact bodyPost_ret (v := .agg #[.int .i64 ((-9223372036854775808)), .int .i64 (9223372036854775807)]) (by simp [results, Tryd.results79, go_sem, hg0, hg1, gz]) rfl ⟨rfl, (by repeat' (first | with_reducible (first | exact HW0.out | apply bR | apply bD | apply bN | apply bA | apply bS) | (simp; done) | (simp; omega) | omega))⟩
 ·have e : bdoes 6 ⟨al, ah⟩ ⟨bl, bh⟩ = ⟨(-9223372036854775808), 9223372036854775807⟩ := (rbdiv_eq 6 ⟨al, ah⟩ ⟨bl, bh⟩).symm.trans (by unfold rbdiv; simp only; rw [if_neg (by omega), if_neg (by omega)]; rfl)
  rw [e]
  clear e
  clear ia ia2 ib ib2 ha hb
  go_enter Tryd.func79, Tryd.ntmps79
  go_wp2_with fail
  exact bodyPost_ret (v := .agg #[.int .i64 ((-9223372036854775808)), .int .i64 (9223372036854775807)]) (by simp [results, Tryd.results79, go_sem, hg0, hg1, gz]) rfl ⟨rfl, (by repeat' (first | with_reducible (first | exact HW0.out | apply bR | apply bD | apply bN | apply bA | apply bS) | (simp; done) | (simp; omega) | omega))⟩

set_option maxRecDepth 100000 in
set_option maxHeartbeats 4000000 in
theorem RefB_7 (al ah bl bh : Int) (ia : In64 al) (ia2 : In64 ah) (ib : In64 bl) (ib2 : In64 bh) (ha : al ≤ ah) (hb : bl ≤ bh) (w : World) (hg0 : w.cell? ⟨4, 0, none⟩ = some (.int .i64 (-9223372036854775808))) (hg1 : w.cell? ⟨4, 1, none⟩ = some (.int .i64 9223372036854775807)) (gz : 4 < w.heap.size) :
  Calls Tryd.prog 79 #[.int .i64 7, .agg #[.int .i64 al, .int .i64 ah], .agg #[.int .i64 bl, .int .i64 bh]] w fun e w' => e = .returned (.agg #[.int .i64 ((bdoes 7 ⟨al, ah⟩ ⟨bl, bh⟩).lo), .int .i64 ((bdoes 7 ⟨al, ah⟩ ⟨bl, bh⟩).hi)]) ∧ Below w.heap.size w w' := by
 have HW0 := Lib.hid (Below.refl w.heap.size w); (try have gq1 : 4 < w.heap.size + 1 := by omega); (try have gq2 : 4 < w.heap.size + 1 + 1 := by omega); (try have gq3 : 4 < w.heap.size + 1 + 1 + 1 := by omega); (try have gq4 : 4 < w.heap.size + 1 + 1 + 1 + 1 := by omega); (try have gq5 : 4 < w.heap.size + 1 + 1 + 1 + 1 + 1 := by omega); (try have gq6 : 4 < w.heap.size + 1 + 1 + 1 + 1 + 1 + 1 := by omega); (try have gq7 : 4 < w.heap.size + 1 + 1 + 1 + 1 + 1 + 1 + 1 := by omega)
 by_cases h1 : 0 ≤ al
 ·by_cases h2 : 0 ≤ bl
  ·have e : bdoes 7 ⟨al, ah⟩ ⟨bl, bh⟩ = ⟨0, min ah bh⟩ := (rband_eq (a := ⟨al, ah⟩) (b := ⟨bl, bh⟩) ⟨ib, ib2, hb⟩).symm.trans (by unfold rband; simp only; rw [if_pos h2, if_pos h1])
   rw [e]
   clear e
   clear ia ia2 ib ib2 ha hb
   go_enter Tryd.func79, Tryd.ntmps79
   go_wp2_with fail
   exact bodyPost_ret (v := .agg #[.int .i64 (0), .int .i64 (min ah bh)]) (by simp [results, Tryd.results79, go_sem, hg0, hg1, gz]) rfl ⟨rfl, (by repeat' (first | with_reducible (first | exact HW0.out | apply bR | apply bD | apply bN | apply bA | apply bS) | (simp; done) | (simp; omega) | omega))⟩
  ·have e : bdoes 7 ⟨al, ah⟩ ⟨bl, bh⟩ = ⟨0, ah⟩ := (rband_eq (a := ⟨al, ah⟩) (b := ⟨bl, bh⟩) ⟨ib, ib2, hb⟩).symm.trans (by unfold rband; simp only; rw [if_neg h2, if_pos h1])
   rw [e]
   clear e
   clear ia ia2 ib ib2 ha hb
   go_enter Tryd.func79, Tryd.ntmps79
   go_wp2_with fail
   exact bodyPost_ret (v := .agg #[.int .i64 (0), .int .i64 (ah)]) (by simp [results, Tryd.results79, go_sem, hg0, hg1, gz]) rfl ⟨rfl, (by repeat' (first | with_reducible (first | exact HW0.out | apply bR | apply bD | apply bN | apply bA | apply bS) | (simp; done) | (simp; omega) | omega))⟩
 ·by_cases h2 : 0 ≤ bl
  ·have e : bdoes 7 ⟨al, ah⟩ ⟨bl, bh⟩ = ⟨0, min 9223372036854775807 bh⟩ := (rband_eq (a := ⟨al, ah⟩) (b := ⟨bl, bh⟩) ⟨ib, ib2, hb⟩).symm.trans (by unfold rband; simp only; rw [if_pos h2, if_neg h1])
   rw [e]
   clear e
   clear ia ia2 ib ib2 ha hb
   go_enter Tryd.func79, Tryd.ntmps79
   go_wp2_with fail
   exact bodyPost_ret (v := .agg #[.int .i64 (0), .int .i64 (min 9223372036854775807 bh)]) (by simp [results, Tryd.results79, go_sem, hg0, hg1, gz]) rfl ⟨rfl, (by repeat' (first | with_reducible (first | exact HW0.out | apply bR | apply bD | apply bN | apply bA | apply bS) | (simp; done) | (simp; omega) | omega))⟩
  ·have e : bdoes 7 ⟨al, ah⟩ ⟨bl, bh⟩ = ⟨(-9223372036854775808), 9223372036854775807⟩ := (rband_eq (a := ⟨al, ah⟩) (b := ⟨bl, bh⟩) ⟨ib, ib2, hb⟩).symm.trans (by unfold rband; simp only; rw [if_neg h2, if_neg h1]; rfl)
   rw [e]
   clear e
   clear ia ia2 ib ib2 ha hb
   go_enter Tryd.func79, Tryd.ntmps79
   go_wp2_with fail
   exact bodyPost_ret (v := .agg #[.int .i64 ((-9223372036854775808)), .int .i64 (9223372036854775807)]) (by simp [results, Tryd.results79, go_sem, hg0, hg1, gz]) rfl ⟨rfl, (by repeat' (first | with_reducible (first | exact HW0.out | apply bR | apply bD | apply bN | apply bA | apply bS) | (simp; done) | (simp; omega) | omega))⟩

set_option maxRecDepth 100000 in
set_option maxHeartbeats 4000000 in
theorem RefB_8 (al ah bl bh : Int) (ia : In64 al) (ia2 : In64 ah) (ib : In64 bl) (ib2 : In64 bh) (ha : al ≤ ah) (hb : bl ≤ bh) (w : World) (hg0 : w.cell? ⟨4, 0, none⟩ = some (.int .i64 (-9223372036854775808))) (hg1 : w.cell? ⟨4, 1, none⟩ = some (.int .i64 9223372036854775807)) (gz : 4 < w.heap.size) :
  Calls Tryd.prog 79 #[.int .i64 8, .agg #[.int .i64 al, .int .i64 ah], .agg #[.int .i64 bl, .int .i64 bh]] w fun e w' => e = .returned (.agg #[.int .i64 ((bdoes 8 ⟨al, ah⟩ ⟨bl, bh⟩).lo), .int .i64 ((bdoes 8 ⟨al, ah⟩ ⟨bl, bh⟩).hi)]) ∧ Below w.heap.size w w' := by
 have HW0 := Lib.hid (Below.refl w.heap.size w); (try have gq1 : 4 < w.heap.size + 1 := by omega); (try have gq2 : 4 < w.heap.size + 1 + 1 := by omega); (try have gq3 : 4 < w.heap.size + 1 + 1 + 1 := by omega); (try have gq4 : 4 < w.heap.size + 1 + 1 + 1 + 1 := by omega); (try have gq5 : 4 < w.heap.size + 1 + 1 + 1 + 1 + 1 := by omega); (try have gq6 : 4 < w.heap.size + 1 + 1 + 1 + 1 + 1 + 1 := by omega); (try have gq7 : 4 < w.heap.size + 1 + 1 + 1 + 1 + 1 + 1 + 1 := by omega)
 by_cases h1 : 0 ≤ al
 ·by_cases h2 : 0 ≤ bl
  ·have e : bdoes 8 ⟨al, ah⟩ ⟨bl, bh⟩ = ⟨max al bl, P.fill (max ah bh)⟩ := (rbor_eq ⟨al, ah⟩ ⟨bl, bh⟩).symm.trans (by unfold rbor; simp only; rw [if_pos ⟨h1, h2⟩])
   rw [e]
   clear e
   have hm := Lib.hid (show In64 (max ah bh) by unfold In64 at *; omega)
   clear ia ia2 ib ib2 ha hb
   go_enter Tryd.func79, Tryd.ntmps79
   go_wp2_with fail
   refine wp_tail 12 (by kernel_rfl) (by kernel_rfl) ?_
   simp only [List.take_succ_cons, List.take_zero, List.drop_succ_cons, List.drop_zero]
   repeat still_step
   still_call ((RefFill_any _ hm.out _).mono (fun _ _ h => ⟨h.1, h.2.symm⟩))
   repeat still_step
   refine wpStill_nil ?_
   go_wp2_with fail
   exact bodyPost_ret (v := .agg #[.int .i64 (max al bl), .int .i64 (P.fill (max ah bh))]) (by simp [results, Tryd.results79, go_sem, hg0, hg1, gz]) rfl ⟨rfl, (by repeat' (first | with_reducible (first | exact HW0.out | apply bR | apply bD | apply bN | apply bA | apply bS) | (simp; done) | (simp; omega) | omega))⟩
  ·have e : bdoes 8 ⟨al, ah⟩ ⟨bl, bh⟩ = ⟨(-9223372036854775808), 9223372036854775807⟩ := (rbor_eq ⟨al, ah⟩ ⟨bl, bh⟩).symm.trans (by unfold rbor; simp only; rw [if_neg (by omega)]; rfl)
   rw [e]
   clear e
   clear ia ia2 ib ib2 ha hb
   go_enter Tryd.func79, Tryd.ntmps79
   go_wp2_with fail
   exact bodyPost_ret (v := .agg #[.int .i64 ((-9223372036854775808)), .int .i64 (9223372036854775807)]) (by simp [results, Tryd.results79, go_sem, hg0, hg1, gz]) rfl ⟨rfl, (by repeat' (first | with_reducible (first | exact HW0.out | apply bR | apply bD | apply bN | apply bA | apply bS) | (simp; done) | (simp; omega) | omega))⟩
 ·have e : bdoes 8 ⟨al, ah⟩ ⟨bl, bh⟩ = ⟨(-9223372036854775808), 9223372036854775807⟩ := (rbor_eq ⟨al, ah⟩ ⟨bl, bh⟩).symm.trans (by unfold rbor; simp only; rw [if_neg (by omega)]; rfl)
  rw [e]
  clear e
  clear ia ia2 ib ib2 ha hb
  go_enter Tryd.func79, Tryd.ntmps79
  go_wp2_with fail
  exact bodyPost_ret (v := .agg #[.int .i64 ((-9223372036854775808)), .int .i64 (9223372036854775807)]) (by simp [results, Tryd.results79, go_sem, hg0, hg1, gz]) rfl ⟨rfl, (by repeat' (first | with_reducible (first | exact HW0.out | apply bR | apply bD | apply bN | apply bA | apply bS) | (simp; done) | (simp; omega) | omega))⟩

set_option maxRecDepth 100000 in
set_option maxHeartbeats 4000000 in
theorem RefB_9 (al ah bl bh : Int) (ia : In64 al) (ia2 : In64 ah) (ib : In64 bl) (ib2 : In64 bh) (ha : al ≤ ah) (hb : bl ≤ bh) (w : World) (hg0 : w.cell? ⟨4, 0, none⟩ = some (.int .i64 (-9223372036854775808))) (hg1 : w.cell? ⟨4, 1, none⟩ = some (.int .i64 9223372036854775807)) (gz : 4 < w.heap.size) :
  Calls Tryd.prog 79 #[.int .i64 9, .agg #[.int .i64 al, .int .i64 ah], .agg #[.int .i64 bl, .int .i64 bh]] w fun e w' => e = .returned (.agg #[.int .i64 ((bdoes 9 ⟨al, ah⟩ ⟨bl, bh⟩).lo), .int .i64 ((bdoes 9 ⟨al, ah⟩ ⟨bl, bh⟩).hi)]) ∧ Below w.heap.size w w' := by
 have HW0 := Lib.hid (Below.refl w.heap.size w); (try have gq1 : 4 < w.heap.size + 1 := by omega); (try have gq2 : 4 < w.heap.size + 1 + 1 := by omega); (try have gq3 : 4 < w.heap.size + 1 + 1 + 1 := by omega); (try have gq4 : 4 < w.heap.size + 1 + 1 + 1 + 1 := by omega); (try have gq5 : 4 < w.heap.size + 1 + 1 + 1 + 1 + 1 := by omega); (try have gq6 : 4 < w.heap.size + 1 + 1 + 1 + 1 + 1 + 1 := by omega); (try have gq7 : 4 < w.heap.size + 1 + 1 + 1 + 1 + 1 + 1 + 1 := by omega)
 by_cases h1 : 0 ≤ al
 ·by_cases h2 : 0 ≤ bl
  ·have e : bdoes 9 ⟨al, ah⟩ ⟨bl, bh⟩ = ⟨0, P.fill (max ah bh)⟩ := (rbxor_eq ⟨al, ah⟩ ⟨bl, bh⟩).symm.trans (by unfold rbxor; simp only; rw [if_pos ⟨h1, h2⟩])
   rw [e]
   clear e
   have hm := Lib.hid (show In64 (max ah bh) by unfold In64 at *; omega)
   clear ia ia2 ib ib2 ha hb
   go_enter Tryd.func79, Tryd.ntmps79
   go_wp2_with (go_at_call 100; refine (RefFill_any _ hm.out _).mono ?_; rintro e w' ⟨rfl, rfl⟩)
   exact bodyPost_ret (v := .agg #[.int .i64 (0), .int .i64 (P.fill (max ah bh))]) (by simp [results, Tryd.results79, go_sem, hg0, hg1, gz]) rfl ⟨rfl, (by repeat' (first | with_reducible (first | exact HW0.out | apply bR | apply bD | apply bN | apply bA | apply bS) | (simp; done) | (simp; omega) | omega))⟩
  ·have e : bdoes 9 ⟨al, ah⟩ ⟨bl, bh⟩ = ⟨(-9223372036854775808), 9223372036854775807⟩ := (rbxor_eq ⟨al, ah⟩ ⟨bl, bh⟩).symm.trans (by unfold rbxor; simp only; rw [if_neg (by omega)]; rfl)
   rw [e]
   clear e
   clear ia ia2 ib ib2 ha hb
   go_enter Tryd.func79, Tryd.ntmps79
   go_wp2_with fail
   exact bodyPost_ret (v := .agg #[.int .i64 ((-9223372036854775808)), .int .i64 (9223372036854775807)]) (by simp [results, Tryd.results79, go_sem, hg0, hg1, gz]) rfl ⟨rfl, (by repeat' (first | with_reducible (first | exact HW0.out | apply bR | apply bD | apply bN | apply bA | apply bS) | (simp; done) | (simp; omega) | omega))⟩
 ·have e : bdoes 9 ⟨al, ah⟩ ⟨bl, bh⟩ = ⟨(-9223372036854775808), 9223372036854775807⟩ := (rbxor_eq ⟨al, ah⟩ ⟨bl, bh⟩).symm.trans (by unfold rbxor; simp only; rw [if_neg (by omega)]; rfl)
  rw [e]
  clear e
  clear ia ia2 ib ib2 ha hb
  go_enter Tryd.func79, Tryd.ntmps79
  go_wp2_with fail
  exact bodyPost_ret (v := .agg #[.int .i64 ((-9223372036854775808)), .int .i64 (9223372036854775807)]) (by simp [results, Tryd.results79, go_sem, hg0, hg1, gz]) rfl ⟨rfl, (by repeat' (first | with_reducible (first | exact HW0.out | apply bR | apply bD | apply bN | apply bA | apply bS) | (simp; done) | (simp; omega) | omega))⟩

set_option maxRecDepth 100000 in
set_option maxHeartbeats 4000000 in
theorem RefB_10 (al ah bl bh : Int) (ia : In64 al) (ia2 : In64 ah) (ib : In64 bl) (ib2 : In64 bh) (ha : al ≤ ah) (hb : bl ≤ bh) (w : World) (hg0 : w.cell? ⟨4, 0, none⟩ = some (.int .i64 (-9223372036854775808))) (hg1 : w.cell? ⟨4, 1, none⟩ = some (.int .i64 9223372036854775807)) (gz : 4 < w.heap.size) :
  Calls Tryd.prog 79 #[.int .i64 10, .agg #[.int .i64 al, .int .i64 ah], .agg #[.int .i64 bl, .int .i64 bh]] w fun e w' => e = .returned (.agg #[.int .i64 ((bdoes 10 ⟨al, ah⟩ ⟨bl, bh⟩).lo), .int .i64 ((bdoes 10 ⟨al, ah⟩ ⟨bl, bh⟩).hi)]) ∧ Below w.heap.size w w' := by
 have HW0 := Lib.hid (Below.refl w.heap.size w); (try have gq1 : 4 < w.heap.size + 1 := by omega); (try have gq2 : 4 < w.heap.size + 1 + 1 := by omega); (try have gq3 : 4 < w.heap.size + 1 + 1 + 1 := by omega); (try have gq4 : 4 < w.heap.size + 1 + 1 + 1 + 1 := by omega); (try have gq5 : 4 < w.heap.size + 1 + 1 + 1 + 1 + 1 := by omega); (try have gq6 : 4 < w.heap.size + 1 + 1 + 1 + 1 + 1 + 1 := by omega); (try have gq7 : 4 < w.heap.size + 1 + 1 + 1 + 1 + 1 + 1 + 1 := by omega)
 by_cases p0 : 0 ≤ al
 ·have ke := and63i bl
  have k0 : (0 : Int) ≤ (sh bl : Int) := by omega
  have k1 : (sh bl : Int) ≤ 63 := by have := sh_lt bl; omega
  have IK := Lib.hid (show In64 (sh bl : Int) by unfold In64; omega)
  have IA := Lib.hid ia; have IA2 := Lib.hid ia2
  have D1 := Lib.hid (does_in (c := 10) ia IK.out); have D2 := Lib.hid (does_in (c := 10) ia2 IK.out)
  by_cases h1 : bl = bh
  ·by_cases h2 : P.does 12 (P.does 10 al (sh bl : Int)) (sh bl : Int) = al
   ·by_cases h3 : P.does 12 (P.does 10 ah (sh bl : Int)) (sh bl : Int) = ah
    ·have e : bdoes 10 ⟨al, ah⟩ ⟨bl, bh⟩ = ⟨P.does 10 al (sh bl : Int), P.does 10 ah (sh bl : Int)⟩ := (rblsh_eq ⟨al, ah⟩ ⟨bl, bh⟩).symm.trans (by unfold rblsh rk; simp only; rw [if_pos ⟨h1, h2, h3⟩])
     rw [e]
     clear e
     have t1 : (bl == bh) = true := by simp [h1]
     have t2 : (P.does 12 (P.does 10 al (sh bl : Int)) (sh bl : Int) == al) = true := by simp [h2]
     have t3 : (P.does 12 (P.does 10 ah (sh bl : Int)) (sh bl : Int) == ah) = true := by simp [h3]
     clear h1 h2 h3
     clear ia ia2 ib ib2 ha hb
     go_enter Tryd.func79, Tryd.ntmps79
     go_wp2_with fail
     go_quiet (first | (go_at_call 68; refine Calls.quiet_of_same ((RefDoes_any _ _ _ (by first | exact IA.out | exact IA2.out) IK.out _).mono (fun _ _ h => ⟨h.1, h.2.symm⟩))))
     go_wp2_with fail
     go_quiet (first | (go_at_call 101; exact quiet_at (Down_any _ _ (by first | exact D1.out | exact D2.out) IK.out _)))
     go_wp2_with fail
     exact bodyPost_ret (v := .agg #[.int .i64 (P.does 10 al (sh bl : Int)), .int .i64 (P.does 10 ah (sh bl : Int))]) (by simp [results, Tryd.results79, go_sem, hg0, hg1, gz]) rfl ⟨rfl, (by repeat' (first | with_reducible (first | exact HW0.out | apply bR | apply bD | apply bN | apply bA | apply bS) | (simp; done) | (simp; omega) | omega))⟩
    ·have e : bdoes 10 ⟨al, ah⟩ ⟨bl, bh⟩ = ⟨(-9223372036854775808), 9223372036854775807⟩ := (rblsh_eq ⟨al, ah⟩ ⟨bl, bh⟩).symm.trans (by unfold rblsh rk; simp only; rw [if_neg (fun x => h3 x.2.2)]; rfl)
     rw [e]
     clear e
     have t1 : (bl == bh) = true := by simp [h1]
     have t2 : (P.does 12 (P.does 10 al (sh bl : Int)) (sh bl : Int) == al) = true := by simp [h2]
     have t3 : (P.does 12 (P.does 10 ah (sh bl : Int)) (sh bl : Int) == ah) = false := by simp [h3]
     clear h1 h2 h3
     clear ia ia2 ib ib2 ha hb
     go_enter Tryd.func79, Tryd.ntmps79
     go_wp2_with fail
     go_quiet (first | (go_at_call 68; refine Calls.quiet_of_same ((RefDoes_any _ _ _ (by first | exact IA.out | exact IA2.out) IK.out _).mono (fun _ _ h => ⟨h.1, h.2.symm⟩))))
     go_wp2_with fail
     go_quiet (first | (go_at_call 101; exact quiet_at (Down_any _ _ (by first | exact D1.out | exact D2.out) IK.out _)))
     go_wp2_with fail
     exact bodyPost_ret (v := .agg #[.int .i64 ((-9223372036854775808)), .int .i64 (9223372036854775807)]) (by simp [results, Tryd.results79, go_sem, hg0, hg1, gz]) rfl ⟨rfl, (by repeat' (first | with_reducible (first | exact HW0.out | apply bR | apply bD | apply bN | apply bA | apply bS) | (simp; done) | (simp; omega) | omega))⟩
   ·have e : bdoes 10 ⟨al, ah⟩ ⟨bl, bh⟩ = ⟨(-9223372036854775808), 9223372036854775807⟩ := (rblsh_eq ⟨al, ah⟩ ⟨bl, bh⟩).symm.trans (by unfold rblsh rk; simp only; rw [if_neg (fun x => h2 x.2.1)]; rfl)
    rw [e]
    clear e
    have t1 : (bl == bh) = true := by simp [h1]
    have t2 : (P.does 12 (P.does 10 al (sh bl : Int)) (sh bl : Int) == al) = false := by simp [h2]
    clear h1 h2
    clear ia ia2 ib ib2 ha hb
    go_enter Tryd.func79, Tryd.ntmps79
    go_wp2_with fail
    go_quiet (first | (go_at_call 68; refine Calls.quiet_of_same ((RefDoes_any _ _ _ (by first | exact IA.out | exact IA2.out) IK.out _).mono (fun _ _ h => ⟨h.1, h.2.symm⟩))))
    go_wp2_with fail
    go_quiet (first | (go_at_call 101; exact quiet_at (Down_any _ _ (by first | exact D1.out | exact D2.out) IK.out _)))
    go_wp2_with fail
    exact bodyPost_ret (v := .agg #[.int .i64 ((-9223372036854775808)), .int .i64 (9223372036854775807)]) (by simp [results, Tryd.results79, go_sem, hg0, hg1, gz]) rfl ⟨rfl, (by repeat' (first | with_reducible (first | exact HW0.out | apply bR | apply bD | apply bN | apply bA | apply bS) | (simp; done) | (simp; omega) | omega))⟩
  ·have e : bdoes 10 ⟨al, ah⟩ ⟨bl, bh⟩ = ⟨(-9223372036854775808), 9223372036854775807⟩ := (rblsh_eq ⟨al, ah⟩ ⟨bl, bh⟩).symm.trans (by unfold rblsh rk; simp only; rw [if_neg (fun x => h1 x.1)]; rfl)
   rw [e]
   clear e
   have t1 : (bl == bh) = false := by simp [h1]
   clear h1
   clear ia ia2 ib ib2 ha hb
   go_enter Tryd.func79, Tryd.ntmps79
   go_wp2_with fail
   go_quiet (first | (go_at_call 68; refine Calls.quiet_of_same ((RefDoes_any _ _ _ (by first | exact IA.out | exact IA2.out) IK.out _).mono (fun _ _ h => ⟨h.1, h.2.symm⟩))))
   go_wp2_with fail
   go_quiet (first | (go_at_call 101; exact quiet_at (Down_any _ _ (by first | exact D1.out | exact D2.out) IK.out _)))
   go_wp2_with fail
   exact bodyPost_ret (v := .agg #[.int .i64 ((-9223372036854775808)), .int .i64 (9223372036854775807)]) (by simp [results, Tryd.results79, go_sem, hg0, hg1, gz]) rfl ⟨rfl, (by repeat' (first | with_reducible (first | exact HW0.out | apply bR | apply bD | apply bN | apply bA | apply bS) | (simp; done) | (simp; omega) | omega))⟩
 ·have ke := and63i bl
  have k0 : (0 : Int) ≤ (sh bl : Int) := by omega
  have k1 : (sh bl : Int) ≤ 63 := by have := sh_lt bl; omega
  have IK := Lib.hid (show In64 (sh bl : Int) by unfold In64; omega)
  have IA := Lib.hid ia; have IA2 := Lib.hid ia2
  have D1 := Lib.hid (does_in (c := 10) ia IK.out); have D2 := Lib.hid (does_in (c := 10) ia2 IK.out)
  by_cases h1 : bl = bh
  ·by_cases h2 : P.does 12 (P.does 10 al (sh bl : Int)) (sh bl : Int) = al
   ·by_cases h3 : P.does 12 (P.does 10 ah (sh bl : Int)) (sh bl : Int) = ah
    ·have e : bdoes 10 ⟨al, ah⟩ ⟨bl, bh⟩ = ⟨P.does 10 al (sh bl : Int), P.does 10 ah (sh bl : Int)⟩ := (rblsh_eq ⟨al, ah⟩ ⟨bl, bh⟩).symm.trans (by unfold rblsh rk; simp only; rw [if_pos ⟨h1, h2, h3⟩])
     rw [e]
     clear e
     have t1 : (bl == bh) = true := by simp [h1]
     have t2 : (P.does 12 (P.does 10 al (sh bl : Int)) (sh bl : Int) == al) = true := by simp [h2]
     have t3 : (P.does 12 (P.does 10 ah (sh bl : Int)) (sh bl : Int) == ah) = true := by simp [h3]
     clear h1 h2 h3
     clear ia ia2 ib ib2 ha hb
     go_enter Tryd.func79, Tryd.ntmps79
     go_wp2_with fail
     go_quiet (first | (go_at_call 68; refine Calls.quiet_of_same ((RefDoes_any _ _ _ (by first | exact IA.out | exact IA2.out) IK.out _).mono (fun _ _ h => ⟨h.1, h.2.symm⟩))))
     go_wp2_with fail
     go_quiet (first | (go_at_call 101; exact quiet_at (Down_any _ _ (by first | exact D1.out | exact D2.out) IK.out _)))
     go_wp2_with fail
     exact bodyPost_ret (v := .agg #[.int .i64 (P.does 10 al (sh bl : Int)), .int .i64 (P.does 10 ah (sh bl : Int))]) (by simp [results, Tryd.results79, go_sem, hg0, hg1, gz]) rfl ⟨rfl, (by repeat' (first | with_reducible (first | exact HW0.out | apply bR | apply bD | apply bN | apply bA | apply bS) | (simp; done) | (simp; omega) | omega))⟩
    ·have e : bdoes 10 ⟨al, ah⟩ ⟨bl, bh⟩ = ⟨(-9223372036854775808), 9223372036854775807⟩ := (rblsh_eq ⟨al, ah⟩ ⟨bl, bh⟩).symm.trans (by unfold rblsh rk; simp only; rw [if_neg (fun x => h3 x.2.2)]; rfl)
     rw [e]
     clear e
     have t1 : (bl == bh) = true := by simp [h1]
     have t2 : (P.does 12 (P.does 10 al (sh bl : Int)) (sh bl : Int) == al) = true := by simp [h2]
     have t3 : (P.does 12 (P.does 10 ah (sh bl : Int)) (sh bl : Int) == ah) = false := by simp [h3]
     clear h1 h2 h3
     clear ia ia2 ib ib2 ha hb
     go_enter Tryd.func79, Tryd.ntmps79
     go_wp2_with fail
     go_quiet (first | (go_at_call 68; refine Calls.quiet_of_same ((RefDoes_any _ _ _ (by first | exact IA.out | exact IA2.out) IK.out _).mono (fun _ _ h => ⟨h.1, h.2.symm⟩))))
     go_wp2_with fail
     go_quiet (first | (go_at_call 101; exact quiet_at (Down_any _ _ (by first | exact D1.out | exact D2.out) IK.out _)))
     go_wp2_with fail
     exact bodyPost_ret (v := .agg #[.int .i64 ((-9223372036854775808)), .int .i64 (9223372036854775807)]) (by simp [results, Tryd.results79, go_sem, hg0, hg1, gz]) rfl ⟨rfl, (by repeat' (first | with_reducible (first | exact HW0.out | apply bR | apply bD | apply bN | apply bA | apply bS) | (simp; done) | (simp; omega) | omega))⟩
   ·have e : bdoes 10 ⟨al, ah⟩ ⟨bl, bh⟩ = ⟨(-9223372036854775808), 9223372036854775807⟩ := (rblsh_eq ⟨al, ah⟩ ⟨bl, bh⟩).symm.trans (by unfold rblsh rk; simp only; rw [if_neg (fun x => h2 x.2.1)]; rfl)
    rw [e]
    clear e
    have t1 : (bl == bh) = true := by simp [h1]
    have t2 : (P.does 12 (P.does 10 al (sh bl : Int)) (sh bl : Int) == al) = false := by simp [h2]
    clear h1 h2
    clear ia ia2 ib ib2 ha hb
    go_enter Tryd.func79, Tryd.ntmps79
    go_wp2_with fail
    go_quiet (first | (go_at_call 68; refine Calls.quiet_of_same ((RefDoes_any _ _ _ (by first | exact IA.out | exact IA2.out) IK.out _).mono (fun _ _ h => ⟨h.1, h.2.symm⟩))))
    go_wp2_with fail
    go_quiet (first | (go_at_call 101; exact quiet_at (Down_any _ _ (by first | exact D1.out | exact D2.out) IK.out _)))
    go_wp2_with fail
    exact bodyPost_ret (v := .agg #[.int .i64 ((-9223372036854775808)), .int .i64 (9223372036854775807)]) (by simp [results, Tryd.results79, go_sem, hg0, hg1, gz]) rfl ⟨rfl, (by repeat' (first | with_reducible (first | exact HW0.out | apply bR | apply bD | apply bN | apply bA | apply bS) | (simp; done) | (simp; omega) | omega))⟩
  ·have e : bdoes 10 ⟨al, ah⟩ ⟨bl, bh⟩ = ⟨(-9223372036854775808), 9223372036854775807⟩ := (rblsh_eq ⟨al, ah⟩ ⟨bl, bh⟩).symm.trans (by unfold rblsh rk; simp only; rw [if_neg (fun x => h1 x.1)]; rfl)
   rw [e]
   clear e
   have t1 : (bl == bh) = false := by simp [h1]
   clear h1
   clear ia ia2 ib ib2 ha hb
   go_enter Tryd.func79, Tryd.ntmps79
   go_wp2_with fail
   go_quiet (first | (go_at_call 68; refine Calls.quiet_of_same ((RefDoes_any _ _ _ (by first | exact IA.out | exact IA2.out) IK.out _).mono (fun _ _ h => ⟨h.1, h.2.symm⟩))))
   go_wp2_with fail
   go_quiet (first | (go_at_call 101; exact quiet_at (Down_any _ _ (by first | exact D1.out | exact D2.out) IK.out _)))
   go_wp2_with fail
   exact bodyPost_ret (v := .agg #[.int .i64 ((-9223372036854775808)), .int .i64 (9223372036854775807)]) (by simp [results, Tryd.results79, go_sem, hg0, hg1, gz]) rfl ⟨rfl, (by repeat' (first | with_reducible (first | exact HW0.out | apply bR | apply bD | apply bN | apply bA | apply bS) | (simp; done) | (simp; omega) | omega))⟩

set_option maxRecDepth 100000 in
set_option maxHeartbeats 4000000 in
theorem RefB_11 (al ah bl bh : Int) (ia : In64 al) (ia2 : In64 ah) (ib : In64 bl) (ib2 : In64 bh) (ha : al ≤ ah) (hb : bl ≤ bh) (w : World) (hg0 : w.cell? ⟨4, 0, none⟩ = some (.int .i64 (-9223372036854775808))) (hg1 : w.cell? ⟨4, 1, none⟩ = some (.int .i64 9223372036854775807)) (gz : 4 < w.heap.size) :
  Calls Tryd.prog 79 #[.int .i64 11, .agg #[.int .i64 al, .int .i64 ah], .agg #[.int .i64 bl, .int .i64 bh]] w fun e w' => e = .returned (.agg #[.int .i64 ((bdoes 11 ⟨al, ah⟩ ⟨bl, bh⟩).lo), .int .i64 ((bdoes 11 ⟨al, ah⟩ ⟨bl, bh⟩).hi)]) ∧ Below w.heap.size w w' := by
 have HW0 := Lib.hid (Below.refl w.heap.size w); (try have gq1 : 4 < w.heap.size + 1 := by omega); (try have gq2 : 4 < w.heap.size + 1 + 1 := by omega); (try have gq3 : 4 < w.heap.size + 1 + 1 + 1 := by omega); (try have gq4 : 4 < w.heap.size + 1 + 1 + 1 + 1 := by omega); (try have gq5 : 4 < w.heap.size + 1 + 1 + 1 + 1 + 1 := by omega); (try have gq6 : 4 < w.heap.size + 1 + 1 + 1 + 1 + 1 + 1 := by omega); (try have gq7 : 4 < w.heap.size + 1 + 1 + 1 + 1 + 1 + 1 + 1 := by omega)
 have ke := and63i bl
 have k0 : (0 : Int) ≤ (sh bl : Int) := by omega
 have k1 : (sh bl : Int) ≤ 63 := by have := sh_lt bl; omega
 have IK := Lib.hid (show In64 (sh bl : Int) by unfold In64; omega)
 have IA := Lib.hid ia; have IA2 := Lib.hid ia2
 by_cases h3 : 0 ≤ al
 ·by_cases h1 : bl = bh
  ·by_cases h2 : (sh bl : Int) = 0
   ·have e : bdoes 11 ⟨al, ah⟩ ⟨bl, bh⟩ = ⟨al, ah⟩ := (rbrsh_eq ⟨al, ah⟩ ⟨bl, bh⟩).symm.trans (by unfold rbrsh rk; simp only; rw [if_pos ⟨h1, h2⟩])
    rw [e]
    clear e
    have t1 : (bl == bh) = true := by simp [h1]
    have t2 : ((sh bl : Int) == 0) = true := by rw [h2]; rfl
    clear h1 h2
    clear ia ia2 ib ib2 ha hb
    go_enter Tryd.func79, Tryd.ntmps79
    go_wp2_with fail
    exact bodyPost_ret (v := .agg #[.int .i64 (al), .int .i64 (ah)]) (by simp [results, Tryd.results79, go_sem, hg0, hg1, gz]) rfl ⟨rfl, (by repeat' (first | with_reducible (first | exact HW0.out | apply bR | apply bD | apply bN | apply bA | apply bS) | (simp; done) | (simp; omega) | omega))⟩
   ·have e : bdoes 11 ⟨al, ah⟩ ⟨bl, bh⟩ = ⟨P.does 12 al (sh bl : Int), P.does 12 ah (sh bl : Int)⟩ := (rbrsh_eq ⟨al, ah⟩ ⟨bl, bh⟩).symm.trans (by unfold rbrsh rk; simp only; rw [if_neg (fun x => h2 x.2), if_pos ⟨h1, h3⟩])
    rw [e]
    clear e
    have t1 : (bl == bh) = true := by simp [h1]
    have t2 : ((sh bl : Int) == 0) = false := by rw [beq_eq_false_iff_ne]; exact h2
    clear h1 h2
    clear ia ia2 ib ib2 ha hb
    go_enter Tryd.func79, Tryd.ntmps79
    go_wp2_with fail
    refine wp_tail 9 (by kernel_rfl) (by kernel_rfl) ?_
    simp only [List.take_succ_cons, List.take_zero, List.drop_succ_cons, List.drop_zero]
    repeat still_step
    still_call ((Down_any _ _ IA.out IK.out _).mono (fun _ _ h => ⟨h.1, h.2.symm⟩))
    repeat still_step
    still_call ((Down_any _ _ IA2.out IK.out _).mono (fun _ _ h => ⟨h.1, h.2.symm⟩))
    repeat still_step
    refine wpStill_nil ?_
    go_wp2_with fail
    exact bodyPost_ret (v := .agg #[.int .i64 (P.does 12 al (sh bl : Int)), .int .i64 (P.does 12 ah (sh bl : Int))]) (by simp [results, Tryd.results79, go_sem, hg0, hg1, gz]) rfl ⟨rfl, (by repeat' (first | with_reducible (first | exact HW0.out | apply bR | apply bD | apply bN | apply bA | apply bS) | (simp; done) | (simp; omega) | omega))⟩
  ·have e : bdoes 11 ⟨al, ah⟩ ⟨bl, bh⟩ = ⟨0, ah⟩ := (rbrsh_eq ⟨al, ah⟩ ⟨bl, bh⟩).symm.trans (by unfold rbrsh rk; simp only; rw [if_neg (fun x => h1 x.1), if_neg (fun x => h1 x.1), if_neg h1, if_pos h3])
   rw [e]
   clear e
   have t1 : (bl == bh) = false := by simp [h1]
   clear h1
   clear ia ia2 ib ib2 ha hb
   go_enter Tryd.func79, Tryd.ntmps79
   go_wp2_with fail
   exact bodyPost_ret (v := .agg #[.int .i64 (0), .int .i64 (ah)]) (by simp [results, Tryd.results79, go_sem, hg0, hg1, gz]) rfl ⟨rfl, (by repeat' (first | with_reducible (first | exact HW0.out | apply bR | apply bD | apply bN | apply bA | apply bS) | (simp; done) | (simp; omega) | omega))⟩
 ·by_cases h1 : bl = bh
  ·by_cases h2 : (sh bl : Int) = 0
   ·have e : bdoes 11 ⟨al, ah⟩ ⟨bl, bh⟩ = ⟨al, ah⟩ := (rbrsh_eq ⟨al, ah⟩ ⟨bl, bh⟩).symm.trans (by unfold rbrsh rk; simp only; rw [if_pos ⟨h1, h2⟩])
    rw [e]
    clear e
    have t1 : (bl == bh) = true := by simp [h1]
    have t2 : ((sh bl : Int) == 0) = true := by rw [h2]; rfl
    clear h1 h2
    clear ia ia2 ib ib2 ha hb
    go_enter Tryd.func79, Tryd.ntmps79
    go_wp2_with fail
    exact bodyPost_ret (v := .agg #[.int .i64 (al), .int .i64 (ah)]) (by simp [results, Tryd.results79, go_sem, hg0, hg1, gz]) rfl ⟨rfl, (by repeat' (first | with_reducible (first | exact HW0.out | apply bR | apply bD | apply bN | apply bA | apply bS) | (simp; done) | (simp; omega) | omega))⟩
   ·have e : bdoes 11 ⟨al, ah⟩ ⟨bl, bh⟩ = ⟨0, P.does 11 (-1) (sh bl : Int)⟩ := (rbrsh_eq ⟨al, ah⟩ ⟨bl, bh⟩).symm.trans (by unfold rbrsh rk; simp only; rw [if_neg (fun x => h2 x.2), if_neg (fun x => h3 x.2), if_pos h1])
    rw [e]
    clear e
    have t1 : (bl == bh) = true := by simp [h1]
    have t2 : ((sh bl : Int) == 0) = false := by rw [beq_eq_false_iff_ne]; exact h2
    have IM := Lib.hid (show In64 (-1) by decide)
    clear h1 h2
    clear ia ia2 ib ib2 ha hb
    go_enter Tryd.func79, Tryd.ntmps79
    go_wp2_with (go_at_call 68; refine (RefDoes_any _ _ _ (by first | exact IA.out | exact IA2.out | exact IM.out) (by first | exact IK.out) _).mono ?_; rintro e w' ⟨rfl, rfl⟩)
    exact bodyPost_ret (v := .agg #[.int .i64 (0), .int .i64 (P.does 11 (-1) (sh bl : Int))]) (by simp [results, Tryd.results79, go_sem, hg0, hg1, gz]) rfl ⟨rfl, (by repeat' (first | with_reducible (first | exact HW0.out | apply bR | apply bD | apply bN | apply bA | apply bS) | (simp; done) | (simp; omega) | omega))⟩
  ·have e : bdoes 11 ⟨al, ah⟩ ⟨bl, bh⟩ = ⟨(-9223372036854775808), 9223372036854775807⟩ := (rbrsh_eq ⟨al, ah⟩ ⟨bl, bh⟩).symm.trans (by unfold rbrsh rk; simp only; rw [if_neg (fun x => h1 x.1), if_neg (fun x => h1 x.1), if_neg h1, if_neg h3]; rfl)
   rw [e]
   clear e
   have t1 : (bl == bh) = false := by simp [h1]
   clear h1
   clear ia ia2 ib ib2 ha hb
   go_enter Tryd.func79, Tryd.ntmps79
   go_wp2_with fail
   exact bodyPost_ret (v := .agg #[.int .i64 ((-9223372036854775808)), .int .i64 (9223372036854775807)]) (by simp [results, Tryd.results79, go_sem, hg0, hg1, gz]) rfl ⟨rfl, (by repeat' (first | with_reducible (first | exact HW0.out | apply bR | apply bD | apply bN | apply bA | apply bS) | (simp; done) | (simp; omega) | omega))⟩

set_option maxRecDepth 100000 in
set_option maxHeartbeats 4000000 in
theorem RefB_12 (al ah bl bh : Int) (ia : In64 al) (ia2 : In64 ah) (ib : In64 bl) (ib2 : In64 bh) (ha : al ≤ ah) (hb : bl ≤ bh) (w : World) (hg0 : w.cell? ⟨4, 0, none⟩ = some (.int .i64 (-9223372036854775808))) (hg1 : w.cell? ⟨4, 1, none⟩ = some (.int .i64 9223372036854775807)) (gz : 4 < w.heap.size) :
  Calls Tryd.prog 79 #[.int .i64 12, .agg #[.int .i64 al, .int .i64 ah], .agg #[.int .i64 bl, .int .i64 bh]] w fun e w' => e = .returned (.agg #[.int .i64 ((bdoes 12 ⟨al, ah⟩ ⟨bl, bh⟩).lo), .int .i64 ((bdoes 12 ⟨al, ah⟩ ⟨bl, bh⟩).hi)]) ∧ Below w.heap.size w w' := by
 have HW0 := Lib.hid (Below.refl w.heap.size w); (try have gq1 : 4 < w.heap.size + 1 := by omega); (try have gq2 : 4 < w.heap.size + 1 + 1 := by omega); (try have gq3 : 4 < w.heap.size + 1 + 1 + 1 := by omega); (try have gq4 : 4 < w.heap.size + 1 + 1 + 1 + 1 := by omega); (try have gq5 : 4 < w.heap.size + 1 + 1 + 1 + 1 + 1 := by omega); (try have gq6 : 4 < w.heap.size + 1 + 1 + 1 + 1 + 1 + 1 := by omega); (try have gq7 : 4 < w.heap.size + 1 + 1 + 1 + 1 + 1 + 1 + 1 := by omega)
 have ke := and63i bl
 have k0 : (0 : Int) ≤ (sh bl : Int) := by omega
 have k1 : (sh bl : Int) ≤ 63 := by have := sh_lt bl; omega
 have IK := Lib.hid (show In64 (sh bl : Int) by unfold In64; omega)
 have IA := Lib.hid ia; have IA2 := Lib.hid ia2
 by_cases h3 : 0 ≤ al
 ·by_cases h1 : bl = bh
  ·have e : bdoes 12 ⟨al, ah⟩ ⟨bl, bh⟩ = ⟨P.does 12 al (sh bl : Int), P.does 12 ah (sh bl : Int)⟩ := (rbarsh_eq ⟨al, ah⟩ ⟨bl, bh⟩).symm.trans (by unfold rbarsh rk; simp only; rw [if_pos h1])
   rw [e]
   clear e
   have t1 : (bl == bh) = true := by simp [h1]
   clear h1
   clear ia ia2 ib ib2 ha hb
   go_enter Tryd.func79, Tryd.ntmps79
   go_wp2_with fail
   refine wp_tail 9 (by kernel_rfl) (by kernel_rfl) ?_
   simp only [List.take_succ_cons, List.take_zero, List.drop_succ_cons, List.drop_zero]
   repeat still_step
   still_call ((Down_any _ _ IA.out IK.out _).mono (fun _ _ h => ⟨h.1, h.2.symm⟩))
   repeat still_step
   still_call ((Down_any _ _ IA2.out IK.out _).mono (fun _ _ h => ⟨h.1, h.2.symm⟩))
   repeat still_step
   refine wpStill_nil ?_
   go_wp2_with fail
   exact bodyPost_ret (v := .agg #[.int .i64 (P.does 12 al (sh bl : Int)), .int .i64 (P.does 12 ah (sh bl : Int))]) (by simp [results, Tryd.results79, go_sem, hg0, hg1, gz]) rfl ⟨rfl, (by repeat' (first | with_reducible (first | exact HW0.out | apply bR | apply bD | apply bN | apply bA | apply bS) | (simp; done) | (simp; omega) | omega))⟩
  ·have e : bdoes 12 ⟨al, ah⟩ ⟨bl, bh⟩ = ⟨0, ah⟩ := (rbarsh_eq ⟨al, ah⟩ ⟨bl, bh⟩).symm.trans (by unfold rbarsh rk; simp only; rw [if_neg h1, if_pos h3])
   rw [e]
   clear e
   have t1 : (bl == bh) = false := by simp [h1]
   clear h1
   clear ia ia2 ib ib2 ha hb
   go_enter Tryd.func79, Tryd.ntmps79
   go_wp2_with fail
   exact bodyPost_ret (v := .agg #[.int .i64 (0), .int .i64 (ah)]) (by simp [results, Tryd.results79, go_sem, hg0, hg1, gz]) rfl ⟨rfl, (by repeat' (first | with_reducible (first | exact HW0.out | apply bR | apply bD | apply bN | apply bA | apply bS) | (simp; done) | (simp; omega) | omega))⟩
 ·by_cases h1 : bl = bh
  ·have e : bdoes 12 ⟨al, ah⟩ ⟨bl, bh⟩ = ⟨P.does 12 al (sh bl : Int), P.does 12 ah (sh bl : Int)⟩ := (rbarsh_eq ⟨al, ah⟩ ⟨bl, bh⟩).symm.trans (by unfold rbarsh rk; simp only; rw [if_pos h1])
   rw [e]
   clear e
   have t1 : (bl == bh) = true := by simp [h1]
   clear h1
   clear ia ia2 ib ib2 ha hb
   go_enter Tryd.func79, Tryd.ntmps79
   go_wp2_with fail
   refine wp_tail 9 (by kernel_rfl) (by kernel_rfl) ?_
   simp only [List.take_succ_cons, List.take_zero, List.drop_succ_cons, List.drop_zero]
   repeat still_step
   still_call ((Down_any _ _ IA.out IK.out _).mono (fun _ _ h => ⟨h.1, h.2.symm⟩))
   repeat still_step
   still_call ((Down_any _ _ IA2.out IK.out _).mono (fun _ _ h => ⟨h.1, h.2.symm⟩))
   repeat still_step
   refine wpStill_nil ?_
   go_wp2_with fail
   exact bodyPost_ret (v := .agg #[.int .i64 (P.does 12 al (sh bl : Int)), .int .i64 (P.does 12 ah (sh bl : Int))]) (by simp [results, Tryd.results79, go_sem, hg0, hg1, gz]) rfl ⟨rfl, (by repeat' (first | with_reducible (first | exact HW0.out | apply bR | apply bD | apply bN | apply bA | apply bS) | (simp; done) | (simp; omega) | omega))⟩
  ·by_cases h4 : ah < 0
   ·have e : bdoes 12 ⟨al, ah⟩ ⟨bl, bh⟩ = ⟨al, -1⟩ := (rbarsh_eq ⟨al, ah⟩ ⟨bl, bh⟩).symm.trans (by unfold rbarsh rk; simp only; rw [if_neg h1, if_neg h3, if_pos h4])
    rw [e]
    clear e
    have t1 : (bl == bh) = false := by simp [h1]
    clear h1
    clear ia ia2 ib ib2 ha hb
    go_enter Tryd.func79, Tryd.ntmps79
    go_wp2_with fail
    exact bodyPost_ret (v := .agg #[.int .i64 (al), .int .i64 (-1)]) (by simp [results, Tryd.results79, go_sem, hg0, hg1, gz]) rfl ⟨rfl, (by repeat' (first | with_reducible (first | exact HW0.out | apply bR | apply bD | apply bN | apply bA | apply bS) | (simp; done) | (simp; omega) | omega))⟩
   ·have e : bdoes 12 ⟨al, ah⟩ ⟨bl, bh⟩ = ⟨al, ah⟩ := (rbarsh_eq ⟨al, ah⟩ ⟨bl, bh⟩).symm.trans (by unfold rbarsh rk; simp only; rw [if_neg h1, if_neg h3, if_neg h4])
    rw [e]
    clear e
    have t1 : (bl == bh) = false := by simp [h1]
    clear h1
    clear ia ia2 ib ib2 ha hb
    go_enter Tryd.func79, Tryd.ntmps79
    go_wp2_with fail
    exact bodyPost_ret (v := .agg #[.int .i64 (al), .int .i64 (ah)]) (by simp [results, Tryd.results79, go_sem, hg0, hg1, gz]) rfl ⟨rfl, (by repeat' (first | with_reducible (first | exact HW0.out | apply bR | apply bD | apply bN | apply bA | apply bS) | (simp; done) | (simp; omega) | omega))⟩

set_option maxRecDepth 100000 in
set_option maxHeartbeats 4000000 in
theorem RefB_13 (al ah bl bh : Int) (ia : In64 al) (ia2 : In64 ah) (ib : In64 bl) (ib2 : In64 bh) (ha : al ≤ ah) (hb : bl ≤ bh) (w : World) (hg0 : w.cell? ⟨4, 0, none⟩ = some (.int .i64 (-9223372036854775808))) (hg1 : w.cell? ⟨4, 1, none⟩ = some (.int .i64 9223372036854775807)) (gz : 4 < w.heap.size) :
  Calls Tryd.prog 79 #[.int .i64 13, .agg #[.int .i64 al, .int .i64 ah], .agg #[.int .i64 bl, .int .i64 bh]] w fun e w' => e = .returned (.agg #[.int .i64 ((bdoes 13 ⟨al, ah⟩ ⟨bl, bh⟩).lo), .int .i64 ((bdoes 13 ⟨al, ah⟩ ⟨bl, bh⟩).hi)]) ∧ Below w.heap.size w w' := by
 have HW0 := Lib.hid (Below.refl w.heap.size w); (try have gq1 : 4 < w.heap.size + 1 := by omega); (try have gq2 : 4 < w.heap.size + 1 + 1 := by omega); (try have gq3 : 4 < w.heap.size + 1 + 1 + 1 := by omega); (try have gq4 : 4 < w.heap.size + 1 + 1 + 1 + 1 := by omega); (try have gq5 : 4 < w.heap.size + 1 + 1 + 1 + 1 + 1 := by omega); (try have gq6 : 4 < w.heap.size + 1 + 1 + 1 + 1 + 1 + 1 := by omega); (try have gq7 : 4 < w.heap.size + 1 + 1 + 1 + 1 + 1 + 1 + 1 := by omega)
 by_cases p0 : 0 ≤ al
 ·have h1 : -9223372036854775808 < al := by omega
  have e : bdoes 13 ⟨al, ah⟩ ⟨bl, bh⟩ = ⟨-ah, -al⟩ := (rbneg_eq (a := ⟨al, ah⟩) (b := ⟨bl, bh⟩) ⟨ia, ia2, ha⟩).symm.trans (by unfold rbneg; simp only; rw [if_pos h1])
  rw [e]
  clear e
  have a1 : -ah ≤ 9223372036854775807 := by omega
  have a2 : -9223372036854775808 ≤ -ah := by have := ia2.2; unfold In64 at *; omega
  have a3 : -al ≤ 9223372036854775807 := by omega
  have a4 : -9223372036854775808 ≤ -al := by unfold In64 at *; omega
  clear ia ia2 ib ib2 ha hb
  go_enter Tryd.func79, Tryd.ntmps79
  go_wp2_with fail
  exact bodyPost_ret (v := .agg #[.int .i64 (-ah), .int .i64 (-al)]) (by simp [results, Tryd.results79, go_sem, hg0, hg1, gz]) rfl ⟨rfl, (by repeat' (first | with_reducible (first | exact HW0.out | apply bR | apply bD | apply bN | apply bA | apply bS) | (simp; done) | (simp; omega) | omega))⟩
 ·by_cases h1 : -9223372036854775808 < al
  ·have e : bdoes 13 ⟨al, ah⟩ ⟨bl, bh⟩ = ⟨-ah, -al⟩ := (rbneg_eq (a := ⟨al, ah⟩) (b := ⟨bl, bh⟩) ⟨ia, ia2, ha⟩).symm.trans (by unfold rbneg; simp only; rw [if_pos h1])
   rw [e]
   clear e
   have a1 : -ah ≤ 9223372036854775807 := by omega
   have a2 : -9223372036854775808 ≤ -ah := by have := ia2.2; unfold In64 at *; omega
   have a3 : -al ≤ 9223372036854775807 := by omega
   have a4 : -9223372036854775808 ≤ -al := by unfold In64 at *; omega
   clear ia ia2 ib ib2 ha hb
   go_enter Tryd.func79, Tryd.ntmps79
   go_wp2_with fail
   exact bodyPost_ret (v := .agg #[.int .i64 (-ah), .int .i64 (-al)]) (by simp [results, Tryd.results79, go_sem, hg0, hg1, gz]) rfl ⟨rfl, (by repeat' (first | with_reducible (first | exact HW0.out | apply bR | apply bD | apply bN | apply bA | apply bS) | (simp; done) | (simp; omega) | omega))⟩
  ·have e : bdoes 13 ⟨al, ah⟩ ⟨bl, bh⟩ = ⟨(-9223372036854775808), 9223372036854775807⟩ := (rbneg_eq (a := ⟨al, ah⟩) (b := ⟨bl, bh⟩) ⟨ia, ia2, ha⟩).symm.trans (by unfold rbneg; simp only; rw [if_neg h1]; rfl)
   rw [e]
   clear e
   clear ia ia2 ib ib2 ha hb
   go_enter Tryd.func79, Tryd.ntmps79
   go_wp2_with fail
   exact bodyPost_ret (v := .agg #[.int .i64 ((-9223372036854775808)), .int .i64 (9223372036854775807)]) (by simp [results, Tryd.results79, go_sem, hg0, hg1, gz]) rfl ⟨rfl, (by repeat' (first | with_reducible (first | exact HW0.out | apply bR | apply bD | apply bN | apply bA | apply bS) | (simp; done) | (simp; omega) | omega))⟩

set_option maxRecDepth 100000 in
set_option maxHeartbeats 4000000 in
theorem RefB_oth (c : Int) (hc : c < 1 ∨ 13 < c) (al ah bl bh : Int) (ia : In64 al) (ia2 : In64 ah) (ib : In64 bl) (ib2 : In64 bh) (ha : al ≤ ah) (hb : bl ≤ bh) (w : World) (hg0 : w.cell? ⟨4, 0, none⟩ = some (.int .i64 (-9223372036854775808))) (hg1 : w.cell? ⟨4, 1, none⟩ = some (.int .i64 9223372036854775807)) (gz : 4 < w.heap.size) :
  Calls Tryd.prog 79 #[.int .i64 c, .agg #[.int .i64 al, .int .i64 ah], .agg #[.int .i64 bl, .int .i64 bh]] w fun e w' => e = .returned (.agg #[.int .i64 ((bdoes c ⟨al, ah⟩ ⟨bl, bh⟩).lo), .int .i64 ((bdoes c ⟨al, ah⟩ ⟨bl, bh⟩).hi)]) ∧ Below w.heap.size w w' := by
 have HW0 := Lib.hid (Below.refl w.heap.size w); (try have gq1 : 4 < w.heap.size + 1 := by omega); (try have gq2 : 4 < w.heap.size + 1 + 1 := by omega); (try have gq3 : 4 < w.heap.size + 1 + 1 + 1 := by omega); (try have gq4 : 4 < w.heap.size + 1 + 1 + 1 + 1 := by omega); (try have gq5 : 4 < w.heap.size + 1 + 1 + 1 + 1 + 1 := by omega); (try have gq6 : 4 < w.heap.size + 1 + 1 + 1 + 1 + 1 + 1 := by omega); (try have gq7 : 4 < w.heap.size + 1 + 1 + 1 + 1 + 1 + 1 + 1 := by omega)
 by_cases p0 : 0 ≤ al
 ·have e : bdoes c ⟨al, ah⟩ ⟨bl, bh⟩ = ⟨(-9223372036854775808), 9223372036854775807⟩ := by unfold bdoes; (repeat rw [if_neg (by omega)]); rfl
  rw [e]
  clear e
  have t1 : (c == 1) = false := by rw [beq_eq_false_iff_ne]; omega
  have t2 : (c == 2) = false := by rw [beq_eq_false_iff_ne]; omega
  have t3 : (c == 3) = false := by rw [beq_eq_false_iff_ne]; omega
  have t4 : (c == 4) = false := by rw [beq_eq_false_iff_ne]; omega
  have t5 : (c == 5) = false := by rw [beq_eq_false_iff_ne]; omega
  have t6 : (c == 6) = false := by rw [beq_eq_false_iff_ne]; omega
  have t7 : (c == 7) = false := by rw [beq_eq_false_iff_ne]; omega
  have t8 : (c == 8) = false := by rw [beq_eq_false_iff_ne]; omega
  have t9 : (c == 9) = false := by rw [beq_eq_false_iff_ne]; omega
  have t10 : (c == 10) = false := by rw [beq_eq_false_iff_ne]; omega
  have t11 : (c == 11) = false := by rw [beq_eq_false_iff_ne]; omega
  have t12 : (c == 12) = false := by rw [beq_eq_false_iff_ne]; omega
  have t13 : (c == 13) = false := by rw [beq_eq_false_iff_ne]; omega
  clear hc
  clear ia ia2 ib ib2 ha hb
  go_enter Tryd.func79, Tryd.ntmps79
  go_wp2_with fail
  exact bodyPost_ret (v := .agg #[.int .i64 ((-9223372036854775808)), .int .i64 (9223372036854775807)]) (by simp [results, Tryd.results79, go_sem, hg0, hg1, gz]) rfl ⟨rfl, (by repeat' (first | with_reducible (first | exact HW0.out | apply bR | apply bD | apply bN | apply bA | apply bS) | (simp; done) | (simp; omega) | omega))⟩
 ·have e : bdoes c ⟨al, ah⟩ ⟨bl, bh⟩ = ⟨(-9223372036854775808), 9223372036854775807⟩ := by unfold bdoes; (repeat rw [if_neg (by omega)]); rfl
  rw [e]
  clear e
  have t1 : (c == 1) = false := by rw [beq_eq_false_iff_ne]; omega
  have t2 : (c == 2) = false := by rw [beq_eq_false_iff_ne]; omega
  have t3 : (c == 3) = false := by rw [beq_eq_false_iff_ne]; omega
  have t4 : (c == 4) = false := by rw [beq_eq_false_iff_ne]; omega
  have t5 : (c == 5) = false := by rw [beq_eq_false_iff_ne]; omega
  have t6 : (c == 6) = false := by rw [beq_eq_false_iff_ne]; omega
  have t7 : (c == 7) = false := by rw [beq_eq_false_iff_ne]; omega
  have t8 : (c == 8) = false := by rw [beq_eq_false_iff_ne]; omega
  have t9 : (c == 9) = false := by rw [beq_eq_false_iff_ne]; omega
  have t10 : (c == 10) = false := by rw [beq_eq_false_iff_ne]; omega
  have t11 : (c == 11) = false := by rw [beq_eq_false_iff_ne]; omega
  have t12 : (c == 12) = false := by rw [beq_eq_false_iff_ne]; omega
  have t13 : (c == 13) = false := by rw [beq_eq_false_iff_ne]; omega
  clear hc
  clear ia ia2 ib ib2 ha hb
  go_enter Tryd.func79, Tryd.ntmps79
  go_wp2_with fail
  exact bodyPost_ret (v := .agg #[.int .i64 ((-9223372036854775808)), .int .i64 (9223372036854775807)]) (by simp [results, Tryd.results79, go_sem, hg0, hg1, gz]) rfl ⟨rfl, (by repeat' (first | with_reducible (first | exact HW0.out | apply bR | apply bD | apply bN | apply bA | apply bS) | (simp; done) | (simp; omega) | omega))⟩

end Go.Proofs.YtfpoicdfkjbknaaDoor.W
