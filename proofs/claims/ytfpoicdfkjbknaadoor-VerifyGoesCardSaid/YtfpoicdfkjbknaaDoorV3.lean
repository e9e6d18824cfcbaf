/- The walks of verify.load and verify.second. Conditions: what is known lies in a block of 81 cells, its bounds in order. -/
import Derived.Test.YtfpoicdfkjbknaaDoorV1
import Derived.BigRegion
import Derived.Deep.Light
namespace Go.Proofs.YtfpoicdfkjbknaaDoor.W
open Go.RowKit Go.Proofs.YtfpoicdfkjbknaaDoor.P
set_option linter.unusedSimpArgs false
set_option linter.unusedVariables false

theorem vbeq_no {a b : Int} (h : a ≠ b) : (a == b) = false := by rw [beq_eq_false_iff_ne]; exact h
theorem vbeq_yes {a b : Int} (h : a = b) : (a == b) = true := by rw [beq_iff_eq]; exact h
theorem vbne_yes {a b : Int} (h : a ≠ b) : (a != b) = true := by rw [bne_iff_ne]; exact h
theorem vbne_no {a b : Int} (h : a = b) : (a != b) = false := by simp [h]
/-- the three cells of a register, of a slot -/
theorem rcells {w : World} {b : Nat} {s : VS} (hI : P.Img w b 81 (simg wcell s)) {k : Nat} (hk : k < 11) : w.cell? ⟨b, k * 3, none⟩ = some (.int .i64 (s.regs k).kind) ∧ w.cell? ⟨b, k * 3 + 1, none⟩ = some (.int .i64 (s.regs k).b.lo) ∧ w.cell? ⟨b, k * 3 + 2, none⟩ = some (.int .i64 (s.regs k).b.hi) :=
 ⟨(hI.cell (k * 3) (by omega)).trans (congrArg some ((simg_reg hk (by omega : 0 < 3) (by omega)).trans (wcell_0 _))), (hI.cell (k * 3 + 1) (by omega)).trans (congrArg some ((simg_reg hk (by omega : 1 < 3) (by omega)).trans (wcell_1 _))), (hI.cell (k * 3 + 2) (by omega)).trans (congrArg some ((simg_reg hk (by omega : 2 < 3) (by omega)).trans (wcell_2 _)))⟩
theorem lcells {w : World} {b : Nat} {s : VS} (hI : P.Img w b 81 (simg wcell s)) {k : Nat} (hk : k < 16) : w.cell? ⟨b, 33 + k * 3, none⟩ = some (.int .i64 (s.slots k).kind) ∧ w.cell? ⟨b, 33 + k * 3 + 1, none⟩ = some (.int .i64 (s.slots k).b.lo) ∧ w.cell? ⟨b, 33 + k * 3 + 2, none⟩ = some (.int .i64 (s.slots k).b.hi) :=
 ⟨(hI.cell (33 + k * 3) (by omega)).trans (congrArg some ((simg_slot hk (by omega : 0 < 3) (by omega)).trans (wcell_0 _))), (hI.cell (33 + k * 3 + 1) (by omega)).trans (congrArg some ((simg_slot hk (by omega : 1 < 3) (by omega)).trans (wcell_1 _))), (hI.cell (33 + k * 3 + 2) (by omega)).trans (congrArg some ((simg_slot hk (by omega : 2 < 3) (by omega)).trans (wcell_2 _)))⟩

set_option maxRecDepth 100000 in
set_option maxHeartbeats 1000000 in
theorem VSecond_reg (b : Nat) (s : VS) (w : World) (hI : P.Img w b 81 (simg wcell s)) (c d : Int) (k : Nat) (hk : k < 11) (o n : Int) :
  Calls Tryd.prog 64 #[.pointer (some ⟨b, 0, none⟩), .agg #[.int .i64 c, .int .i64 d, .int .i64 k, .bool true, .int .i64 o, .int .i64 n]] w fun e w' =>
   e = .returned (.agg #[.int .i64 (s.regs k).kind, .int .i64 (s.regs k).b.lo, .int .i64 (s.regs k).b.hi]) ∧ Below w.heap.size w w' := by
 have HW0 := Lib.hid (Below.refl w.heap.size w)
 have hlt := hI.lt (by omega)
 have i0 : (0 : Int) ≤ (k : Int) := by omega
 have i1 : (k : Int) < 11 := by omega
 obtain ⟨c0, c1, c2⟩ := rcells hI hk
 have HI := Lib.hid hI
 clear hI
 go_enter Tryd.func64, Tryd.ntmps64
 go_wp2_with fail
 go_region
 all_goals
  go_wp2_with fail
  refine bodyPost_ret ?_ rfl ⟨rfl, (by repeat' (first | with_reducible (first | exact HW0.out | apply bR | apply bD | apply bN | apply bA | apply bS) | (simp; done) | (simp; omega) | omega))⟩
  simp [results, Tryd.results64, go_sem]
set_option maxRecDepth 100000 in
set_option maxHeartbeats 1000000 in
theorem VSecond_num (p : Value) (w : World) (c d k o n : Int) :
  Calls Tryd.prog 64 #[p, .agg #[.int .i64 c, .int .i64 d, .int .i64 k, .bool false, .int .i64 o, .int .i64 n]] w fun e w' =>
   e = .returned (.agg #[.int .i64 1, .int .i64 n, .int .i64 n]) ∧ Below w.heap.size w w' := by
 have HW0 := Lib.hid (Below.refl w.heap.size w)
 go_enter Tryd.func64, Tryd.ntmps64
 go_wp2_with fail
 refine (One_any n _).mono ?_
 (rintro e w1 ⟨rfl, hb⟩; obtain ⟨hc1, hf1⟩ := bcell hb; have hz1 := hb.size; (try simp at hz1); have HW1 := Lib.hid (show Below w.heap.size w w1 from Below.trans (by repeat' (first | with_reducible (first | exact HW0.out | apply bR | apply bD | apply bN | apply bA | apply bS) | (simp; done) | (simp; omega) | omega)) (hb.mono (by first | omega | simp <;> omega))); clear hb; (try have z10 : w.heap.size < w1.heap.size := by omega); (try have z11 : w.heap.size + 1 < w1.heap.size := by omega); (try have z12 : w.heap.size + 1 + 1 < w1.heap.size := by omega))
 (have k1_w_heap_size_1_0 : w1.cell? ⟨w.heap.size + 1, 0, none⟩ = some (.int .i64 0) := (by rw [hc1 _ _ (by first | omega | simp <;> omega)]; first | (simp [go_sem]; done) | assumption | (simp [go_sem, *]; done)); have r1_w_heap_size_1_0 : w1.frozen? ⟨w.heap.size + 1, 0, none⟩ = false := (by rw [hf1 _ _ (by first | omega | simp <;> omega)]; first | (simp [go_sem]; done) | assumption | (simp [go_sem, *]; done)); have k1_w_heap_size_1_1 : w1.cell? ⟨w.heap.size + 1, 1, none⟩ = some (.int .i64 0) := (by rw [hc1 _ _ (by first | omega | simp <;> omega)]; first | (simp [go_sem]; done) | assumption | (simp [go_sem, *]; done)); have r1_w_heap_size_1_1 : w1.frozen? ⟨w.heap.size + 1, 1, none⟩ = false := (by rw [hf1 _ _ (by first | omega | simp <;> omega)]; first | (simp [go_sem]; done) | assumption | (simp [go_sem, *]; done)); have k1_w_heap_size_1_2 : w1.cell? ⟨w.heap.size + 1, 2, none⟩ = some (.int .i64 0) := (by rw [hc1 _ _ (by first | omega | simp <;> omega)]; first | (simp [go_sem]; done) | assumption | (simp [go_sem, *]; done)); have r1_w_heap_size_1_2 : w1.frozen? ⟨w.heap.size + 1, 2, none⟩ = false := (by rw [hf1 _ _ (by first | omega | simp <;> omega)]; first | (simp [go_sem]; done) | assumption | (simp [go_sem, *]; done)))
 clear hc1 hf1
 go_wp2_with fail
 refine (VNumber_any n n _).mono ?_
 (rintro e w2 ⟨rfl, hb⟩; obtain ⟨hc2, hf2⟩ := bcell hb; have hz2 := hb.size; (try simp at hz2); have HW2 := Lib.hid (show Below w.heap.size w w2 from Below.trans (by repeat' (first | with_reducible (first | exact HW1.out | apply bR | apply bD | apply bN | apply bA | apply bS) | (simp; done) | (simp; omega) | omega)) (hb.mono (by first | omega | simp <;> omega))); clear hb; (try have z20 : w.heap.size < w2.heap.size := by omega); (try have z21 : w.heap.size + 1 < w2.heap.size := by omega); (try have z22 : w.heap.size + 1 + 1 < w2.heap.size := by omega))
 (have k2_w_heap_size_1_0 : w2.cell? ⟨w.heap.size + 1, 0, none⟩ = some (.int .i64 0) := (by rw [hc2 _ _ (by first | omega | simp <;> omega)]; first | (simp [go_sem]; done) | assumption | (simp [go_sem, *]; done)); have r2_w_heap_size_1_0 : w2.frozen? ⟨w.heap.size + 1, 0, none⟩ = false := (by rw [hf2 _ _ (by first | omega | simp <;> omega)]; first | (simp [go_sem]; done) | assumption | (simp [go_sem, *]; done)); have k2_w_heap_size_1_1 : w2.cell? ⟨w.heap.size + 1, 1, none⟩ = some (.int .i64 0) := (by rw [hc2 _ _ (by first | omega | simp <;> omega)]; first | (simp [go_sem]; done) | assumption | (simp [go_sem, *]; done)); have r2_w_heap_size_1_1 : w2.frozen? ⟨w.heap.size + 1, 1, none⟩ = false := (by rw [hf2 _ _ (by first | omega | simp <;> omega)]; first | (simp [go_sem]; done) | assumption | (simp [go_sem, *]; done)); have k2_w_heap_size_1_2 : w2.cell? ⟨w.heap.size + 1, 2, none⟩ = some (.int .i64 0) := (by rw [hc2 _ _ (by first | omega | simp <;> omega)]; first | (simp [go_sem]; done) | assumption | (simp [go_sem, *]; done)); have r2_w_heap_size_1_2 : w2.frozen? ⟨w.heap.size + 1, 2, none⟩ = false := (by rw [hf2 _ _ (by first | omega | simp <;> omega)]; first | (simp [go_sem]; done) | assumption | (simp [go_sem, *]; done)))
 clear hc2 hf2
 go_wp2_with fail
 refine bodyPost_ret ?_ rfl ⟨rfl, (by repeat' (first | with_reducible (first | exact HW2.out | apply bR | apply bD | apply bN | apply bA | apply bS) | (simp; done) | (simp; omega) | omega))⟩
 simp [results, Tryd.results64, go_sem, *]
theorem VSecond_any (b : Nat) (s : VS) (w : World) (hI : P.Img w b 81 (simg wcell s)) (c d : Int) (k : Nat) (r : Bool) (o n : Int) (hk : k < 11) :
  Calls Tryd.prog 64 #[.pointer (some ⟨b, 0, none⟩), .agg #[.int .i64 c, .int .i64 d, .int .i64 k, .bool r, .int .i64 o, .int .i64 n]] w fun e w' =>
   e = .returned (.agg #[.int .i64 (s.second ⟨c, d, k, r, o, n⟩).kind, .int .i64 (s.second ⟨c, d, k, r, o, n⟩).b.lo, .int .i64 (s.second ⟨c, d, k, r, o, n⟩).b.hi]) ∧ Below w.heap.size w w' := by
 cases r with
 | true => exact VSecond_reg b s w hI c d k hk o n
 | false => exact VSecond_num _ w c d k o n

set_option maxRecDepth 100000 in
set_option maxHeartbeats 1000000 in
theorem VLoad_err (b : Nat) (s : VS) (w : World) (a : Wh) (ha : WOk a) (o : Int) (ho : In64 o) (d : B) (er : Int) (hke : vfar a o = (d, er)) (he : er ≠ 0) :
  Calls Tryd.prog 62 #[.pointer (some ⟨b, 0, none⟩), .agg #[.int .i64 a.kind, .int .i64 a.b.lo, .int .i64 a.b.hi], .int .i64 o] w fun e w' =>
   e = .returned (.tuple #[.agg #[.int .i64 0, .int .i64 0, .int .i64 0], .int .i64 er]) ∧ Below w.heap.size w w' := by
 have HW0 := Lib.hid (Below.refl w.heap.size w)
 have C := Lib.hid (fun w => VFar_any a o ha ho w)
 have HK := Lib.hid hke
 have he2 := vbne_yes he
 have he3 := vbeq_no he
 clear hke he ha ho
 go_enter Tryd.func62, Tryd.ntmps62
 go_wp2_with fail
 refine (C.out _).mono ?_
 rw [HK.out]
 (rintro e w1 ⟨rfl, hb⟩; obtain ⟨hc1, hf1⟩ := bcell hb; have hz1 := hb.size; (try simp at hz1); have HW1 := Lib.hid (show Below w.heap.size w w1 from Below.trans (by repeat' (first | with_reducible (first | exact HW0.out | apply bR | apply bD | apply bN | apply bA | apply bS) | (simp; done) | (simp; omega) | omega)) (hb.mono (by first | omega | simp <;> omega))); clear hb; (try have z10 : w.heap.size < w1.heap.size := by omega); (try have z11 : w.heap.size + 1 < w1.heap.size := by omega); (try have z12 : w.heap.size + 1 + 1 < w1.heap.size := by omega))
 (have k1_w_heap_size_1_0 : w1.cell? ⟨w.heap.size + 1, 0, none⟩ = some (.int .i64 0) := (by rw [hc1 _ _ (by first | omega | simp <;> omega)]; first | (simp [go_sem]; done) | assumption | (simp [go_sem, *]; done)); have r1_w_heap_size_1_0 : w1.frozen? ⟨w.heap.size + 1, 0, none⟩ = false := (by rw [hf1 _ _ (by first | omega | simp <;> omega)]; first | (simp [go_sem]; done) | assumption | (simp [go_sem, *]; done)); have k1_w_heap_size_1_1 : w1.cell? ⟨w.heap.size + 1, 1, none⟩ = some (.int .i64 0) := (by rw [hc1 _ _ (by first | omega | simp <;> omega)]; first | (simp [go_sem]; done) | assumption | (simp [go_sem, *]; done)); have r1_w_heap_size_1_1 : w1.frozen? ⟨w.heap.size + 1, 1, none⟩ = false := (by rw [hf1 _ _ (by first | omega | simp <;> omega)]; first | (simp [go_sem]; done) | assumption | (simp [go_sem, *]; done)); have k1_w_heap_size_1_2 : w1.cell? ⟨w.heap.size + 1, 2, none⟩ = some (.int .i64 0) := (by rw [hc1 _ _ (by first | omega | simp <;> omega)]; first | (simp [go_sem]; done) | assumption | (simp [go_sem, *]; done)); have r1_w_heap_size_1_2 : w1.frozen? ⟨w.heap.size + 1, 2, none⟩ = false := (by rw [hf1 _ _ (by first | omega | simp <;> omega)]; first | (simp [go_sem]; done) | assumption | (simp [go_sem, *]; done)))
 clear hc1 hf1
 go_wp2_with fail
 refine bodyPost_ret ?_ rfl ⟨rfl, (by repeat' (first | with_reducible (first | exact HW1.out | apply bR | apply bD | apply bN | apply bA | apply bS) | (simp; done) | (simp; omega) | omega))⟩
 simp [results, Tryd.results62, go_sem, *]

set_option maxRecDepth 100000 in
set_option maxHeartbeats 1000000 in
theorem VLoad_told (b : Nat) (s : VS) (w : World) (k l h : Int) (hk : k = 2 ∨ k = 4) (ha : B.Ok ⟨l, h⟩) (o : Int) (ho : In64 o) (d : B) (hke : vfar ⟨k, ⟨l, h⟩⟩ o = (d, 0)) :
  Calls Tryd.prog 62 #[.pointer (some ⟨b, 0, none⟩), .agg #[.int .i64 k, .int .i64 l, .int .i64 h], .int .i64 o] w fun e w' =>
   e = .returned (.tuple #[.agg #[.int .i64 1, .int .i64 (-9223372036854775808), .int .i64 9223372036854775807], .int .i64 0]) ∧ Below w.heap.size w w' := by
 have HW0 := Lib.hid (Below.refl w.heap.size w)
 have C := Lib.hid (fun w => VFar_any ⟨k, ⟨l, h⟩⟩ o ⟨by simp only; omega, ha⟩ ho w)
 have HK := Lib.hid hke
 have t1 := vbne_yes (show k ≠ 3 by omega)
 clear hke ha ho hk
 go_enter Tryd.func62, Tryd.ntmps62
 go_wp2_with fail
 refine (C.out _).mono ?_
 rw [HK.out]
 (rintro e w1 ⟨rfl, hb⟩; obtain ⟨hc1, hf1⟩ := bcell hb; have hz1 := hb.size; (try simp at hz1); have HW1 := Lib.hid (show Below w.heap.size w w1 from Below.trans (by repeat' (first | with_reducible (first | exact HW0.out | apply bR | apply bD | apply bN | apply bA | apply bS) | (simp; done) | (simp; omega) | omega)) (hb.mono (by first | omega | simp <;> omega))); clear hb; (try have z10 : w.heap.size < w1.heap.size := by omega); (try have z11 : w.heap.size + 1 < w1.heap.size := by omega); (try have z12 : w.heap.size + 1 + 1 < w1.heap.size := by omega))
 (have k1_w_heap_size_0 : w1.cell? ⟨w.heap.size, 0, none⟩ = some (.int .i64 k) := (by rw [hc1 _ _ (by first | omega | simp <;> omega)]; first | (simp [go_sem]; done) | assumption | (simp [go_sem, *]; done)); have r1_w_heap_size_0 : w1.frozen? ⟨w.heap.size, 0, none⟩ = false := (by rw [hf1 _ _ (by first | omega | simp <;> omega)]; first | (simp [go_sem]; done) | assumption | (simp [go_sem, *]; done)); have k1_w_heap_size_1 : w1.cell? ⟨w.heap.size, 1, none⟩ = some (.int .i64 l) := (by rw [hc1 _ _ (by first | omega | simp <;> omega)]; first | (simp [go_sem]; done) | assumption | (simp [go_sem, *]; done)); have r1_w_heap_size_1 : w1.frozen? ⟨w.heap.size, 1, none⟩ = false := (by rw [hf1 _ _ (by first | omega | simp <;> omega)]; first | (simp [go_sem]; done) | assumption | (simp [go_sem, *]; done)); have k1_w_heap_size_2 : w1.cell? ⟨w.heap.size, 2, none⟩ = some (.int .i64 h) := (by rw [hc1 _ _ (by first | omega | simp <;> omega)]; first | (simp [go_sem]; done) | assumption | (simp [go_sem, *]; done)); have r1_w_heap_size_2 : w1.frozen? ⟨w.heap.size, 2, none⟩ = false := (by rw [hf1 _ _ (by first | omega | simp <;> omega)]; first | (simp [go_sem]; done) | assumption | (simp [go_sem, *]; done)))
 (have k1_w_heap_size_1_0 : w1.cell? ⟨w.heap.size + 1, 0, none⟩ = some (.int .i64 0) := (by rw [hc1 _ _ (by first | omega | simp <;> omega)]; first | (simp [go_sem]; done) | assumption | (simp [go_sem, *]; done)); have r1_w_heap_size_1_0 : w1.frozen? ⟨w.heap.size + 1, 0, none⟩ = false := (by rw [hf1 _ _ (by first | omega | simp <;> omega)]; first | (simp [go_sem]; done) | assumption | (simp [go_sem, *]; done)); have k1_w_heap_size_1_1 : w1.cell? ⟨w.heap.size + 1, 1, none⟩ = some (.int .i64 0) := (by rw [hc1 _ _ (by first | omega | simp <;> omega)]; first | (simp [go_sem]; done) | assumption | (simp [go_sem, *]; done)); have r1_w_heap_size_1_1 : w1.frozen? ⟨w.heap.size + 1, 1, none⟩ = false := (by rw [hf1 _ _ (by first | omega | simp <;> omega)]; first | (simp [go_sem]; done) | assumption | (simp [go_sem, *]; done)); have k1_w_heap_size_1_2 : w1.cell? ⟨w.heap.size + 1, 2, none⟩ = some (.int .i64 0) := (by rw [hc1 _ _ (by first | omega | simp <;> omega)]; first | (simp [go_sem]; done) | assumption | (simp [go_sem, *]; done)); have r1_w_heap_size_1_2 : w1.frozen? ⟨w.heap.size + 1, 2, none⟩ = false := (by rw [hf1 _ _ (by first | omega | simp <;> omega)]; first | (simp [go_sem]; done) | assumption | (simp [go_sem, *]; done)))
 clear hc1 hf1
 go_wp2_with fail
 refine (All_any _).mono ?_
 (rintro e w2 ⟨rfl, hb⟩; obtain ⟨hc2, hf2⟩ := bcell hb; have hz2 := hb.size; (try simp at hz2); have HW2 := Lib.hid (show Below w.heap.size w w2 from Below.trans (by repeat' (first | with_reducible (first | exact HW1.out | apply bR | apply bD | apply bN | apply bA | apply bS) | (simp; done) | (simp; omega) | omega)) (hb.mono (by first | omega | simp <;> omega))); clear hb; (try have z20 : w.heap.size < w2.heap.size := by omega); (try have z21 : w.heap.size + 1 < w2.heap.size := by omega); (try have z22 : w.heap.size + 1 + 1 < w2.heap.size := by omega))
 (have k2_w_heap_size_1_0 : w2.cell? ⟨w.heap.size + 1, 0, none⟩ = some (.int .i64 0) := (by rw [hc2 _ _ (by first | omega | simp <;> omega)]; first | (simp [go_sem]; done) | assumption | (simp [go_sem, *]; done)); have r2_w_heap_size_1_0 : w2.frozen? ⟨w.heap.size + 1, 0, none⟩ = false := (by rw [hf2 _ _ (by first | omega | simp <;> omega)]; first | (simp [go_sem]; done) | assumption | (simp [go_sem, *]; done)); have k2_w_heap_size_1_1 : w2.cell? ⟨w.heap.size + 1, 1, none⟩ = some (.int .i64 0) := (by rw [hc2 _ _ (by first | omega | simp <;> omega)]; first | (simp [go_sem]; done) | assumption | (simp [go_sem, *]; done)); have r2_w_heap_size_1_1 : w2.frozen? ⟨w.heap.size + 1, 1, none⟩ = false := (by rw [hf2 _ _ (by first | omega | simp <;> omega)]; first | (simp [go_sem]; done) | assumption | (simp [go_sem, *]; done)); have k2_w_heap_size_1_2 : w2.cell? ⟨w.heap.size + 1, 2, none⟩ = some (.int .i64 0) := (by rw [hc2 _ _ (by first | omega | simp <;> omega)]; first | (simp [go_sem]; done) | assumption | (simp [go_sem, *]; done)); have r2_w_heap_size_1_2 : w2.frozen? ⟨w.heap.size + 1, 2, none⟩ = false := (by rw [hf2 _ _ (by first | omega | simp <;> omega)]; first | (simp [go_sem]; done) | assumption | (simp [go_sem, *]; done)))
 clear hc2 hf2
 go_wp2_with fail
 refine (VNumber_any _ _ _).mono ?_
 (rintro e w3 ⟨rfl, hb⟩; obtain ⟨hc3, hf3⟩ := bcell hb; have hz3 := hb.size; (try simp at hz3); have HW3 := Lib.hid (show Below w.heap.size w w3 from Below.trans (by repeat' (first | with_reducible (first | exact HW2.out | apply bR | apply bD | apply bN | apply bA | apply bS) | (simp; done) | (simp; omega) | omega)) (hb.mono (by first | omega | simp <;> omega))); clear hb; (try have z30 : w.heap.size < w3.heap.size := by omega); (try have z31 : w.heap.size + 1 < w3.heap.size := by omega); (try have z32 : w.heap.size + 1 + 1 < w3.heap.size := by omega))
 (have k3_w_heap_size_1_0 : w3.cell? ⟨w.heap.size + 1, 0, none⟩ = some (.int .i64 0) := (by rw [hc3 _ _ (by first | omega | simp <;> omega)]; first | (simp [go_sem]; done) | assumption | (simp [go_sem, *]; done)); have r3_w_heap_size_1_0 : w3.frozen? ⟨w.heap.size + 1, 0, none⟩ = false := (by rw [hf3 _ _ (by first | omega | simp <;> omega)]; first | (simp [go_sem]; done) | assumption | (simp [go_sem, *]; done)); have k3_w_heap_size_1_1 : w3.cell? ⟨w.heap.size + 1, 1, none⟩ = some (.int .i64 0) := (by rw [hc3 _ _ (by first | omega | simp <;> omega)]; first | (simp [go_sem]; done) | assumption | (simp [go_sem, *]; done)); have r3_w_heap_size_1_1 : w3.frozen? ⟨w.heap.size + 1, 1, none⟩ = false := (by rw [hf3 _ _ (by first | omega | simp <;> omega)]; first | (simp [go_sem]; done) | assumption | (simp [go_sem, *]; done)); have k3_w_heap_size_1_2 : w3.cell? ⟨w.heap.size + 1, 2, none⟩ = some (.int .i64 0) := (by rw [hc3 _ _ (by first | omega | simp <;> omega)]; first | (simp [go_sem]; done) | assumption | (simp [go_sem, *]; done)); have r3_w_heap_size_1_2 : w3.frozen? ⟨w.heap.size + 1, 2, none⟩ = false := (by rw [hf3 _ _ (by first | omega | simp <;> omega)]; first | (simp [go_sem]; done) | assumption | (simp [go_sem, *]; done)))
 clear hc3 hf3
 go_wp2_with fail
 refine bodyPost_ret ?_ rfl ⟨rfl, (by repeat' (first | with_reducible (first | exact HW3.out | apply bR | apply bD | apply bN | apply bA | apply bS) | (simp; done) | (simp; omega) | omega))⟩
 simp [results, Tryd.results62, go_sem, *]

set_option maxRecDepth 100000 in
set_option maxHeartbeats 1000000 in
theorem VLoad_one (b : Nat) (s : VS) (w : World) (hI : P.Img w b 81 (simg wcell s)) (l h : Int) (ha : B.Ok ⟨l, h⟩) (o : Int) (ho : In64 o) (q : Nat) (hq : q < 16) (hke : vfar ⟨3, ⟨l, h⟩⟩ o = (⟨(q : Int) - 16, (q : Int) - 16⟩, 0)) (x : Wh) (hx : s.slots q = x) :
  Calls Tryd.prog 62 #[.pointer (some ⟨b, 0, none⟩), .agg #[.int .i64 3, .int .i64 l, .int .i64 h], .int .i64 o] w fun e w' =>
   e = .returned (.tuple #[.agg #[.int .i64 (if x.kind = 0 then 0 else x.kind), .int .i64 (if x.kind = 0 then 0 else x.b.lo), .int .i64 (if x.kind = 0 then 0 else x.b.hi)], .int .i64 (if x.kind = 0 then 8 else 0)]) ∧ Below w.heap.size w w' := by
 have HW0 := Lib.hid (Below.refl w.heap.size w)
 have hlt := hI.lt (by omega)
 have C := Lib.hid (fun w => VFar_any ⟨3, ⟨l, h⟩⟩ o ⟨by simp, ha⟩ ho w)
 have HI := Lib.hid hI
 have HK := Lib.hid hke
 have HX := Lib.hid hx
 have q7 : (q : Int) < 16 := by omega
 have e16 : (q : Int) - 16 + 16 = q := by omega
 clear hI hke ha ho hx
 by_cases hz : x.kind = 0
 ·simp only [hz, if_true]
  have hz2 := vbeq_yes hz
  clear hz
  go_enter Tryd.func62, Tryd.ntmps62
  go_wp2_with fail
  refine (C.out _).mono ?_
  rw [HK.out]
  (rintro e w1 ⟨rfl, hb⟩; obtain ⟨hc1, hf1⟩ := bcell hb; have hz1 := hb.size; (try simp at hz1); have HW1 := Lib.hid (show Below w.heap.size w w1 from Below.trans (by repeat' (first | with_reducible (first | exact HW0.out | apply bR | apply bD | apply bN | apply bA | apply bS) | (simp; done) | (simp; omega) | omega)) (hb.mono (by first | omega | simp <;> omega))); clear hb; (try have z10 : w.heap.size < w1.heap.size := by omega); (try have z11 : w.heap.size + 1 < w1.heap.size := by omega); (try have z12 : w.heap.size + 1 + 1 < w1.heap.size := by omega))
  (have k1_w_heap_size_0 : w1.cell? ⟨w.heap.size, 0, none⟩ = some (.int .i64 3) := (by rw [hc1 _ _ (by first | omega | simp <;> omega)]; first | (simp [go_sem]; done) | assumption | (simp [go_sem, *]; done)); have r1_w_heap_size_0 : w1.frozen? ⟨w.heap.size, 0, none⟩ = false := (by rw [hf1 _ _ (by first | omega | simp <;> omega)]; first | (simp [go_sem]; done) | assumption | (simp [go_sem, *]; done)); have k1_w_heap_size_1 : w1.cell? ⟨w.heap.size, 1, none⟩ = some (.int .i64 l) := (by rw [hc1 _ _ (by first | omega | simp <;> omega)]; first | (simp [go_sem]; done) | assumption | (simp [go_sem, *]; done)); have r1_w_heap_size_1 : w1.frozen? ⟨w.heap.size, 1, none⟩ = false := (by rw [hf1 _ _ (by first | omega | simp <;> omega)]; first | (simp [go_sem]; done) | assumption | (simp [go_sem, *]; done)); have k1_w_heap_size_2 : w1.cell? ⟨w.heap.size, 2, none⟩ = some (.int .i64 h) := (by rw [hc1 _ _ (by first | omega | simp <;> omega)]; first | (simp [go_sem]; done) | assumption | (simp [go_sem, *]; done)); have r1_w_heap_size_2 : w1.frozen? ⟨w.heap.size, 2, none⟩ = false := (by rw [hf1 _ _ (by first | omega | simp <;> omega)]; first | (simp [go_sem]; done) | assumption | (simp [go_sem, *]; done)))
  (have k1_w_heap_size_1_0 : w1.cell? ⟨w.heap.size + 1, 0, none⟩ = some (.int .i64 0) := (by rw [hc1 _ _ (by first | omega | simp <;> omega)]; first | (simp [go_sem]; done) | assumption | (simp [go_sem, *]; done)); have r1_w_heap_size_1_0 : w1.frozen? ⟨w.heap.size + 1, 0, none⟩ = false := (by rw [hf1 _ _ (by first | omega | simp <;> omega)]; first | (simp [go_sem]; done) | assumption | (simp [go_sem, *]; done)); have k1_w_heap_size_1_1 : w1.cell? ⟨w.heap.size + 1, 1, none⟩ = some (.int .i64 0) := (by rw [hc1 _ _ (by first | omega | simp <;> omega)]; first | (simp [go_sem]; done) | assumption | (simp [go_sem, *]; done)); have r1_w_heap_size_1_1 : w1.frozen? ⟨w.heap.size + 1, 1, none⟩ = false := (by rw [hf1 _ _ (by first | omega | simp <;> omega)]; first | (simp [go_sem]; done) | assumption | (simp [go_sem, *]; done)); have k1_w_heap_size_1_2 : w1.cell? ⟨w.heap.size + 1, 2, none⟩ = some (.int .i64 0) := (by rw [hc1 _ _ (by first | omega | simp <;> omega)]; first | (simp [go_sem]; done) | assumption | (simp [go_sem, *]; done)); have r1_w_heap_size_1_2 : w1.frozen? ⟨w.heap.size + 1, 2, none⟩ = false := (by rw [hf1 _ _ (by first | omega | simp <;> omega)]; first | (simp [go_sem]; done) | assumption | (simp [go_sem, *]; done)))
  have hl := lcells (HI.out.later HW1.out hlt) hq
  have zb1 : b < w1.heap.size := (HI.out.later HW1.out hlt).lt (by omega)
  have zb2 : b < w1.heap.size + 1 := by omega
  rw [HX.out] at hl
  obtain ⟨d0, d1, d2⟩ := hl
  clear hc1 hf1
  go_wp2_with fail
  go_region
  all_goals
   go_wp2_with fail
   refine bodyPost_ret ?_ rfl ⟨rfl, (by repeat' (first | with_reducible (first | exact HW1.out | apply bR | apply bD | apply bN | apply bA | apply bS) | (simp; done) | (simp; omega) | omega))⟩
   simp [results, Tryd.results62, go_sem, *]
 ·simp only [hz, if_false]
  have hz2 := vbeq_no hz
  clear hz
  go_enter Tryd.func62, Tryd.ntmps62
  go_wp2_with fail
  refine (C.out _).mono ?_
  rw [HK.out]
  (rintro e w1 ⟨rfl, hb⟩; obtain ⟨hc1, hf1⟩ := bcell hb; have hz1 := hb.size; (try simp at hz1); have HW1 := Lib.hid (show Below w.heap.size w w1 from Below.trans (by repeat' (first | with_reducible (first | exact HW0.out | apply bR | apply bD | apply bN | apply bA | apply bS) | (simp; done) | (simp; omega) | omega)) (hb.mono (by first | omega | simp <;> omega))); clear hb; (try have z10 : w.heap.size < w1.heap.size := by omega); (try have z11 : w.heap.size + 1 < w1.heap.size := by omega); (try have z12 : w.heap.size + 1 + 1 < w1.heap.size := by omega))
  (have k1_w_heap_size_0 : w1.cell? ⟨w.heap.size, 0, none⟩ = some (.int .i64 3) := (by rw [hc1 _ _ (by first | omega | simp <;> omega)]; first | (simp [go_sem]; done) | assumption | (simp [go_sem, *]; done)); have r1_w_heap_size_0 : w1.frozen? ⟨w.heap.size, 0, none⟩ = false := (by rw [hf1 _ _ (by first | omega | simp <;> omega)]; first | (simp [go_sem]; done) | assumption | (simp [go_sem, *]; done)); have k1_w_heap_size_1 : w1.cell? ⟨w.heap.size, 1, none⟩ = some (.int .i64 l) := (by rw [hc1 _ _ (by first | omega | simp <;> omega)]; first | (simp [go_sem]; done) | assumption | (simp [go_sem, *]; done)); have r1_w_heap_size_1 : w1.frozen? ⟨w.heap.size, 1, none⟩ = false := (by rw [hf1 _ _ (by first | omega | simp <;> omega)]; first | (simp [go_sem]; done) | assumption | (simp [go_sem, *]; done)); have k1_w_heap_size_2 : w1.cell? ⟨w.heap.size, 2, none⟩ = some (.int .i64 h) := (by rw [hc1 _ _ (by first | omega | simp <;> omega)]; first | (simp [go_sem]; done) | assumption | (simp [go_sem, *]; done)); have r1_w_heap_size_2 : w1.frozen? ⟨w.heap.size, 2, none⟩ = false := (by rw [hf1 _ _ (by first | omega | simp <;> omega)]; first | (simp [go_sem]; done) | assumption | (simp [go_sem, *]; done)))
  (have k1_w_heap_size_1_0 : w1.cell? ⟨w.heap.size + 1, 0, none⟩ = some (.int .i64 0) := (by rw [hc1 _ _ (by first | omega | simp <;> omega)]; first | (simp [go_sem]; done) | assumption | (simp [go_sem, *]; done)); have r1_w_heap_size_1_0 : w1.frozen? ⟨w.heap.size + 1, 0, none⟩ = false := (by rw [hf1 _ _ (by first | omega | simp <;> omega)]; first | (simp [go_sem]; done) | assumption | (simp [go_sem, *]; done)); have k1_w_heap_size_1_1 : w1.cell? ⟨w.heap.size + 1, 1, none⟩ = some (.int .i64 0) := (by rw [hc1 _ _ (by first | omega | simp <;> omega)]; first | (simp [go_sem]; done) | assumption | (simp [go_sem, *]; done)); have r1_w_heap_size_1_1 : w1.frozen? ⟨w.heap.size + 1, 1, none⟩ = false := (by rw [hf1 _ _ (by first | omega | simp <;> omega)]; first | (simp [go_sem]; done) | assumption | (simp [go_sem, *]; done)); have k1_w_heap_size_1_2 : w1.cell? ⟨w.heap.size + 1, 2, none⟩ = some (.int .i64 0) := (by rw [hc1 _ _ (by first | omega | simp <;> omega)]; first | (simp [go_sem]; done) | assumption | (simp [go_sem, *]; done)); have r1_w_heap_size_1_2 : w1.frozen? ⟨w.heap.size + 1, 2, none⟩ = false := (by rw [hf1 _ _ (by first | omega | simp <;> omega)]; first | (simp [go_sem]; done) | assumption | (simp [go_sem, *]; done)))
  have hl := lcells (HI.out.later HW1.out hlt) hq
  have zb1 : b < w1.heap.size := (HI.out.later HW1.out hlt).lt (by omega)
  have zb2 : b < w1.heap.size + 1 := by omega
  rw [HX.out] at hl
  obtain ⟨d0, d1, d2⟩ := hl
  clear hc1 hf1
  go_wp2_with fail
  go_region
  all_goals
   go_wp2_with fail
   refine bodyPost_ret ?_ rfl ⟨rfl, (by repeat' (first | with_reducible (first | exact HW1.out | apply bR | apply bD | apply bN | apply bA | apply bS) | (simp; done) | (simp; omega) | omega))⟩
   simp [results, Tryd.results62, go_sem, *]
end Go.Proofs.YtfpoicdfkjbknaaDoor.W
