/- The walk of the reference's loads: errors, and what is told or in a cell. Conditions: the bounds have their ends in order; the variable all holds the least and the greatest number. -/
import Derived.Test.YtfpoicdfkjbknaaDoorW1
namespace Go.Proofs.YtfpoicdfkjbknaaDoor.W
open Go.RowKit Go.Proofs.YtfpoicdfkjbknaaDoor.P
set_option linter.unusedSimpArgs false
set_option linter.unusedVariables false

set_option maxRecDepth 100000 in
set_option maxHeartbeats 1000000 in
theorem RLoad_err (s : VS) (w : World) (hg : AllAt w) (a : Wh) (ha : WOk a) (o : Int) (ho : In64 o) (d : P.B) (er : Int) (hke : rfar a o = (d, er)) (he : er ≠ 0) :
  Calls Tryd.prog 56 #[.agg (scells rwcell s).toArray, .agg #[.int .u8 (letter a.kind), .int .i64 a.b.lo, .int .i64 a.b.hi], .int .i64 o] w fun e w' =>
   e = .returned (.tuple #[.agg #[.int .u8 0, .int .i64 0, .int .i64 0], .int .i64 er]) ∧ Below w.heap.size w w' := by
 have gz := hg.lt
 have HW0 := Lib.hid (Below.refl w.heap.size w)
 have C := Lib.hid (fun w (hg : AllAt w) => RFar_any a o ha ho w hg)
 have HK := Lib.hid hke
 have HG := Lib.hid hg
 have he2 : (er != 0) = true := by rw [bne_iff_ne]; exact he
 have he3 : (er == 0) = false := by rw [beq_eq_false_iff_ne]; exact he
 clear hke he ha ho hg
 go_enter Tryd.func56, Tryd.ntmps56
 go_wp2_with fail
 refine (C.out _ (HG.out.later (by repeat' (first | with_reducible (first | exact HW0.out | apply bR | apply bD | apply bN | apply bA | apply bS) | (simp; done) | (simp; omega) | omega)))).mono ?_
 rw [HK.out]
 (rintro e w1 ⟨rfl, hb⟩; obtain ⟨hc1, hf1⟩ := bcell hb; have hz1 := hb.size; (try simp at hz1); have HW1 := Lib.hid (show Below w.heap.size w w1 from Below.trans (by repeat' (first | with_reducible (first | exact HW0.out | apply bR | apply bD | apply bN | apply bA | apply bS) | (simp; done) | (simp; omega) | omega)) (hb.mono (by first | omega | simp <;> omega))); clear hb; (try have z10 : w.heap.size < w1.heap.size := by omega); (try have z11 : w.heap.size + 1 < w1.heap.size := by omega); (try have z12 : w.heap.size + 1 + 1 < w1.heap.size := by omega); (try have z13 : w.heap.size + 1 + 1 + 1 < w1.heap.size := by omega))
 (have k1_w_heap_size_1_1_0 : w1.cell? ⟨w.heap.size + 1 + 1, 0, none⟩ = some (.int .u8 0) := (by rw [hc1 _ _ (by first | omega | simp <;> omega)]; first | (simp [go_sem]; done) | assumption | (simp [go_sem, *]; done)); have r1_w_heap_size_1_1_0 : w1.frozen? ⟨w.heap.size + 1 + 1, 0, none⟩ = false := (by rw [hf1 _ _ (by first | omega | simp <;> omega)]; first | (simp [go_sem]; done) | assumption | (simp [go_sem, *]; done)); have k1_w_heap_size_1_1_1 : w1.cell? ⟨w.heap.size + 1 + 1, 1, none⟩ = some (.int .i64 0) := (by rw [hc1 _ _ (by first | omega | simp <;> omega)]; first | (simp [go_sem]; done) | assumption | (simp [go_sem, *]; done)); have r1_w_heap_size_1_1_1 : w1.frozen? ⟨w.heap.size + 1 + 1, 1, none⟩ = false := (by rw [hf1 _ _ (by first | omega | simp <;> omega)]; first | (simp [go_sem]; done) | assumption | (simp [go_sem, *]; done)); have k1_w_heap_size_1_1_2 : w1.cell? ⟨w.heap.size + 1 + 1, 2, none⟩ = some (.int .i64 0) := (by rw [hc1 _ _ (by first | omega | simp <;> omega)]; first | (simp [go_sem]; done) | assumption | (simp [go_sem, *]; done)); have r1_w_heap_size_1_1_2 : w1.frozen? ⟨w.heap.size + 1 + 1, 2, none⟩ = false := (by rw [hf1 _ _ (by first | omega | simp <;> omega)]; first | (simp [go_sem]; done) | assumption | (simp [go_sem, *]; done)))
 clear hc1 hf1
 go_wp2_with fail
 refine bodyPost_ret ?_ rfl ⟨rfl, (by repeat' (first | with_reducible (first | exact HW1.out | apply bR | apply bD | apply bN | apply bA | apply bS) | (simp; done) | (simp; omega) | omega))⟩
 simp [results, Tryd.results56, go_sem, *]

set_option maxRecDepth 100000 in
set_option maxHeartbeats 1000000 in
theorem RLoad_told (s : VS) (w : World) (hg : AllAt w) (k l h : Int) (hk : k = 2 ∨ k = 4) (ha : P.B.Ok ⟨l, h⟩) (o : Int) (ho : In64 o) (d : P.B) (hke : rfar ⟨k, ⟨l, h⟩⟩ o = (d, 0)) :
  Calls Tryd.prog 56 #[.agg (scells rwcell s).toArray, .agg #[.int .u8 (letter k), .int .i64 l, .int .i64 h], .int .i64 o] w fun e w' =>
   e = .returned (.tuple #[.agg #[.int .u8 110, .int .i64 (-9223372036854775808), .int .i64 9223372036854775807], .int .i64 0]) ∧ Below w.heap.size w w' := by
 have gz := hg.lt
 have HW0 := Lib.hid (Below.refl w.heap.size w)
 have C := Lib.hid (fun w (hg : AllAt w) => RFar_any ⟨k, ⟨l, h⟩⟩ o ⟨by simp only; omega, ha⟩ ho w hg)
 have HK := Lib.hid hke
 have HG := Lib.hid hg
 have t1 : (letter k != 102) = true := by rcases hk with rfl | rfl <;> simp [letter]
 clear hke ha ho hk hg
 go_enter Tryd.func56, Tryd.ntmps56
 go_wp2_with fail
 refine (C.out _ (HG.out.later (by repeat' (first | with_reducible (first | exact HW0.out | apply bR | apply bD | apply bN | apply bA | apply bS) | (simp; done) | (simp; omega) | omega)))).mono ?_
 rw [HK.out]
 (rintro e w1 ⟨rfl, hb⟩; obtain ⟨hc1, hf1⟩ := bcell hb; have hz1 := hb.size; (try simp at hz1); have HW1 := Lib.hid (show Below w.heap.size w w1 from Below.trans (by repeat' (first | with_reducible (first | exact HW0.out | apply bR | apply bD | apply bN | apply bA | apply bS) | (simp; done) | (simp; omega) | omega)) (hb.mono (by first | omega | simp <;> omega))); clear hb; (try have z10 : w.heap.size < w1.heap.size := by omega); (try have z11 : w.heap.size + 1 < w1.heap.size := by omega); (try have z12 : w.heap.size + 1 + 1 < w1.heap.size := by omega); (try have z13 : w.heap.size + 1 + 1 + 1 < w1.heap.size := by omega))
 have hga := HG.out.later HW1.out
 have gz1 := hga.lt
 obtain ⟨hg0, hg1⟩ := hga
 (have k1_w_heap_size_1_0 : w1.cell? ⟨w.heap.size + 1, 0, none⟩ = some (.int .u8 (letter k)) := (by rw [hc1 _ _ (by first | omega | simp <;> omega)]; first | (simp [go_sem]; done) | assumption | (simp [go_sem, *]; done)); have r1_w_heap_size_1_0 : w1.frozen? ⟨w.heap.size + 1, 0, none⟩ = false := (by rw [hf1 _ _ (by first | omega | simp <;> omega)]; first | (simp [go_sem]; done) | assumption | (simp [go_sem, *]; done)); have k1_w_heap_size_1_1 : w1.cell? ⟨w.heap.size + 1, 1, none⟩ = some (.int .i64 l) := (by rw [hc1 _ _ (by first | omega | simp <;> omega)]; first | (simp [go_sem]; done) | assumption | (simp [go_sem, *]; done)); have r1_w_heap_size_1_1 : w1.frozen? ⟨w.heap.size + 1, 1, none⟩ = false := (by rw [hf1 _ _ (by first | omega | simp <;> omega)]; first | (simp [go_sem]; done) | assumption | (simp [go_sem, *]; done)); have k1_w_heap_size_1_2 : w1.cell? ⟨w.heap.size + 1, 2, none⟩ = some (.int .i64 h) := (by rw [hc1 _ _ (by first | omega | simp <;> omega)]; first | (simp [go_sem]; done) | assumption | (simp [go_sem, *]; done)); have r1_w_heap_size_1_2 : w1.frozen? ⟨w.heap.size + 1, 2, none⟩ = false := (by rw [hf1 _ _ (by first | omega | simp <;> omega)]; first | (simp [go_sem]; done) | assumption | (simp [go_sem, *]; done)))
 (have k1_w_heap_size_1_1_0 : w1.cell? ⟨w.heap.size + 1 + 1, 0, none⟩ = some (.int .u8 0) := (by rw [hc1 _ _ (by first | omega | simp <;> omega)]; first | (simp [go_sem]; done) | assumption | (simp [go_sem, *]; done)); have r1_w_heap_size_1_1_0 : w1.frozen? ⟨w.heap.size + 1 + 1, 0, none⟩ = false := (by rw [hf1 _ _ (by first | omega | simp <;> omega)]; first | (simp [go_sem]; done) | assumption | (simp [go_sem, *]; done)); have k1_w_heap_size_1_1_1 : w1.cell? ⟨w.heap.size + 1 + 1, 1, none⟩ = some (.int .i64 0) := (by rw [hc1 _ _ (by first | omega | simp <;> omega)]; first | (simp [go_sem]; done) | assumption | (simp [go_sem, *]; done)); have r1_w_heap_size_1_1_1 : w1.frozen? ⟨w.heap.size + 1 + 1, 1, none⟩ = false := (by rw [hf1 _ _ (by first | omega | simp <;> omega)]; first | (simp [go_sem]; done) | assumption | (simp [go_sem, *]; done)); have k1_w_heap_size_1_1_2 : w1.cell? ⟨w.heap.size + 1 + 1, 2, none⟩ = some (.int .i64 0) := (by rw [hc1 _ _ (by first | omega | simp <;> omega)]; first | (simp [go_sem]; done) | assumption | (simp [go_sem, *]; done)); have r1_w_heap_size_1_1_2 : w1.frozen? ⟨w.heap.size + 1 + 1, 2, none⟩ = false := (by rw [hf1 _ _ (by first | omega | simp <;> omega)]; first | (simp [go_sem]; done) | assumption | (simp [go_sem, *]; done)))
 clear hc1 hf1
 go_wp2_with fail
 refine bodyPost_ret ?_ rfl ⟨rfl, (by repeat' (first | with_reducible (first | exact HW1.out | apply bR | apply bD | apply bN | apply bA | apply bS) | (simp; done) | (simp; omega) | omega))⟩
 simp [results, Tryd.results56, go_sem, *]
end Go.Proofs.YtfpoicdfkjbknaaDoor.W
