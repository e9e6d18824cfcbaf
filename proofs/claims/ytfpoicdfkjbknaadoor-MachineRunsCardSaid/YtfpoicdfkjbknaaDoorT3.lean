/- The walk of machine.store: what is written at a place. Conditions: the machine lies in a block of 108 cells. -/
import Derived.Test.YtfpoicdfkjbknaaDoorT2
namespace Go.Proofs.YtfpoicdfkjbknaaDoor.W
open Go.RowKit Go.Proofs.YtfpoicdfkjbknaaDoor.P
set_option linter.unusedSimpArgs false
set_option linter.unusedVariables false

set_option maxRecDepth 100000 in
set_option maxHeartbeats 1000000 in
theorem Store_same (b : Nat) (w : World) (v x : Val) (hv : VOk v) (o k er r : Int) (hke : P.far v o = (k, er))
    (h : (er ≠ 0 ∧ r = er) ∨ (er = 0 ∧ v.kind = 2 ∧ r = 6) ∨ (er = 0 ∧ v.kind ≠ 2 ∧ x.kind = 0 ∧ r = 8) ∨ (er = 0 ∧ v.kind ≠ 2 ∧ x.kind ≠ 0 ∧ v.kind ≠ 3 ∧ x.kind ≠ 1 ∧ r = 1)) :
    Calls Tryd.prog 21 #[.pointer (some ⟨b, 0, none⟩), .agg #[.int .i64 v.kind, .int .i64 v.n, .int .i64 v.cell], .int .i64 o, .agg #[.int .i64 x.kind, .int .i64 x.n, .int .i64 x.cell]] w fun e w' =>
      e = .returned (.int .i64 r) ∧ Below w.heap.size w w' := by
  have HW0 := Lib.hid (Below.refl w.heap.size w)
  have HK := Lib.hid hke
  clear hke
  rcases h with ⟨h1, rfl⟩ | ⟨rfl, h2, rfl⟩ | ⟨rfl, h2, h3, rfl⟩ | ⟨rfl, h2, h3, h4, h5, rfl⟩
  · have he2 : (r == 0) = false := by rw [beq_eq_false_iff_ne]; exact h1
    go_enter Tryd.func21, Tryd.ntmps21
    go_wp2_with fail
    refine (Far_any v o hv.1 _).mono ?_
    rw [HK.out]
    (rintro e w1 ⟨rfl, hb⟩; obtain ⟨hc1, hf1⟩ := bcell hb; have hz1 := hb.size; (try simp at hz1); have HW1 := Lib.hid (show Below w.heap.size w w1 from Below.trans (by repeat' (first | with_reducible exact HW0.out | with_reducible exact Below.refl _ _ | with_reducible refine Below.drew ?_ | with_reducible refine Below.drewN' ?_ _ | with_reducible refine Below.alloc ?_ ?_ _ | with_reducible refine Below.setCell ?_ ?_ _ | (simp; done) | (simp; omega) | omega)) (hb.mono (by first | (simp; done) | (simp; omega) | omega))); clear hb; (try have z10 : w.heap.size < w1.heap.size := by omega); (try have z11 : w.heap.size + 1 < w1.heap.size := by omega); (try have z12 : w.heap.size + 1 + 1 < w1.heap.size := by omega); (try have z13 : w.heap.size + 1 + 1 + 1 < w1.heap.size := by omega); (try have z14 : w.heap.size + 1 + 1 + 1 + 1 < w1.heap.size := by omega); (try have z15 : w.heap.size + 1 + 1 + 1 + 1 + 1 < w1.heap.size := by omega); (try have z16 : w.heap.size + 1 + 1 + 1 + 1 + 1 + 1 < w1.heap.size := by omega); (try have z17 : w.heap.size + 1 + 1 + 1 + 1 + 1 + 1 + 1 < w1.heap.size := by omega))
    clear hc1 hf1
    go_wp2_with fail
    go_ret
    exact ⟨rfl, (by repeat' (first | with_reducible exact HW1.out | with_reducible exact Below.refl _ _ | with_reducible refine Below.drew ?_ | with_reducible refine Below.drewN' ?_ _ | with_reducible refine Below.alloc ?_ ?_ _ | with_reducible refine Below.setCell ?_ ?_ _ | (simp; done) | (simp; omega) | omega))⟩
  · have e2 : (v.kind == 2) = true := by rw [beq_iff_eq]; exact h2
    clear h2
    go_enter Tryd.func21, Tryd.ntmps21
    go_wp2_with fail
    refine (Far_any v o hv.1 _).mono ?_
    rw [HK.out]
    (rintro e w1 ⟨rfl, hb⟩; obtain ⟨hc1, hf1⟩ := bcell hb; have hz1 := hb.size; (try simp at hz1); have HW1 := Lib.hid (show Below w.heap.size w w1 from Below.trans (by repeat' (first | with_reducible exact HW0.out | with_reducible exact Below.refl _ _ | with_reducible refine Below.drew ?_ | with_reducible refine Below.drewN' ?_ _ | with_reducible refine Below.alloc ?_ ?_ _ | with_reducible refine Below.setCell ?_ ?_ _ | (simp; done) | (simp; omega) | omega)) (hb.mono (by first | (simp; done) | (simp; omega) | omega))); clear hb; (try have z10 : w.heap.size < w1.heap.size := by omega); (try have z11 : w.heap.size + 1 < w1.heap.size := by omega); (try have z12 : w.heap.size + 1 + 1 < w1.heap.size := by omega); (try have z13 : w.heap.size + 1 + 1 + 1 < w1.heap.size := by omega); (try have z14 : w.heap.size + 1 + 1 + 1 + 1 < w1.heap.size := by omega); (try have z15 : w.heap.size + 1 + 1 + 1 + 1 + 1 < w1.heap.size := by omega); (try have z16 : w.heap.size + 1 + 1 + 1 + 1 + 1 + 1 < w1.heap.size := by omega); (try have z17 : w.heap.size + 1 + 1 + 1 + 1 + 1 + 1 + 1 < w1.heap.size := by omega))
    (have k1_w_heap_size_0 : w1.cell? ⟨w.heap.size, 0, none⟩ = some (.int .i64 v.kind) := (by rw [hc1 _ _ (by first | (simp; done) | (simp; omega) | omega)]; first | (simp [go_sem]; done) | assumption); have r1_w_heap_size_0 : w1.frozen? ⟨w.heap.size, 0, none⟩ = false := (by rw [hf1 _ _ (by first | (simp; done) | (simp; omega) | omega)]; first | (simp [go_sem]; done) | assumption); have k1_w_heap_size_1 : w1.cell? ⟨w.heap.size, 1, none⟩ = some (.int .i64 v.n) := (by rw [hc1 _ _ (by first | (simp; done) | (simp; omega) | omega)]; first | (simp [go_sem]; done) | assumption); have r1_w_heap_size_1 : w1.frozen? ⟨w.heap.size, 1, none⟩ = false := (by rw [hf1 _ _ (by first | (simp; done) | (simp; omega) | omega)]; first | (simp [go_sem]; done) | assumption); have k1_w_heap_size_2 : w1.cell? ⟨w.heap.size, 2, none⟩ = some (.int .i64 v.cell) := (by rw [hc1 _ _ (by first | (simp; done) | (simp; omega) | omega)]; first | (simp [go_sem]; done) | assumption); have r1_w_heap_size_2 : w1.frozen? ⟨w.heap.size, 2, none⟩ = false := (by rw [hf1 _ _ (by first | (simp; done) | (simp; omega) | omega)]; first | (simp [go_sem]; done) | assumption))
    clear hc1 hf1
    go_wp2_with fail
    go_ret
    exact ⟨rfl, (by repeat' (first | with_reducible exact HW1.out | with_reducible exact Below.refl _ _ | with_reducible refine Below.drew ?_ | with_reducible refine Below.drewN' ?_ _ | with_reducible refine Below.alloc ?_ ?_ _ | with_reducible refine Below.setCell ?_ ?_ _ | (simp; done) | (simp; omega) | omega))⟩
  · have e2 : (v.kind == 2) = false := by rw [beq_eq_false_iff_ne]; exact h2
    have e3 : (x.kind == 0) = true := by rw [beq_iff_eq]; exact h3
    clear h2 h3
    go_enter Tryd.func21, Tryd.ntmps21
    go_wp2_with fail
    refine (Far_any v o hv.1 _).mono ?_
    rw [HK.out]
    (rintro e w1 ⟨rfl, hb⟩; obtain ⟨hc1, hf1⟩ := bcell hb; have hz1 := hb.size; (try simp at hz1); have HW1 := Lib.hid (show Below w.heap.size w w1 from Below.trans (by repeat' (first | with_reducible exact HW0.out | with_reducible exact Below.refl _ _ | with_reducible refine Below.drew ?_ | with_reducible refine Below.drewN' ?_ _ | with_reducible refine Below.alloc ?_ ?_ _ | with_reducible refine Below.setCell ?_ ?_ _ | (simp; done) | (simp; omega) | omega)) (hb.mono (by first | (simp; done) | (simp; omega) | omega))); clear hb; (try have z10 : w.heap.size < w1.heap.size := by omega); (try have z11 : w.heap.size + 1 < w1.heap.size := by omega); (try have z12 : w.heap.size + 1 + 1 < w1.heap.size := by omega); (try have z13 : w.heap.size + 1 + 1 + 1 < w1.heap.size := by omega); (try have z14 : w.heap.size + 1 + 1 + 1 + 1 < w1.heap.size := by omega); (try have z15 : w.heap.size + 1 + 1 + 1 + 1 + 1 < w1.heap.size := by omega); (try have z16 : w.heap.size + 1 + 1 + 1 + 1 + 1 + 1 < w1.heap.size := by omega); (try have z17 : w.heap.size + 1 + 1 + 1 + 1 + 1 + 1 + 1 < w1.heap.size := by omega))
    (have k1_w_heap_size_0 : w1.cell? ⟨w.heap.size, 0, none⟩ = some (.int .i64 v.kind) := (by rw [hc1 _ _ (by first | (simp; done) | (simp; omega) | omega)]; first | (simp [go_sem]; done) | assumption); have r1_w_heap_size_0 : w1.frozen? ⟨w.heap.size, 0, none⟩ = false := (by rw [hf1 _ _ (by first | (simp; done) | (simp; omega) | omega)]; first | (simp [go_sem]; done) | assumption); have k1_w_heap_size_1 : w1.cell? ⟨w.heap.size, 1, none⟩ = some (.int .i64 v.n) := (by rw [hc1 _ _ (by first | (simp; done) | (simp; omega) | omega)]; first | (simp [go_sem]; done) | assumption); have r1_w_heap_size_1 : w1.frozen? ⟨w.heap.size, 1, none⟩ = false := (by rw [hf1 _ _ (by first | (simp; done) | (simp; omega) | omega)]; first | (simp [go_sem]; done) | assumption); have k1_w_heap_size_2 : w1.cell? ⟨w.heap.size, 2, none⟩ = some (.int .i64 v.cell) := (by rw [hc1 _ _ (by first | (simp; done) | (simp; omega) | omega)]; first | (simp [go_sem]; done) | assumption); have r1_w_heap_size_2 : w1.frozen? ⟨w.heap.size, 2, none⟩ = false := (by rw [hf1 _ _ (by first | (simp; done) | (simp; omega) | omega)]; first | (simp [go_sem]; done) | assumption))
    (have k1_w_heap_size_1_0 : w1.cell? ⟨w.heap.size + 1, 0, none⟩ = some (.int .i64 x.kind) := (by rw [hc1 _ _ (by first | (simp; done) | (simp; omega) | omega)]; first | (simp [go_sem]; done) | assumption); have r1_w_heap_size_1_0 : w1.frozen? ⟨w.heap.size + 1, 0, none⟩ = false := (by rw [hf1 _ _ (by first | (simp; done) | (simp; omega) | omega)]; first | (simp [go_sem]; done) | assumption); have k1_w_heap_size_1_1 : w1.cell? ⟨w.heap.size + 1, 1, none⟩ = some (.int .i64 x.n) := (by rw [hc1 _ _ (by first | (simp; done) | (simp; omega) | omega)]; first | (simp [go_sem]; done) | assumption); have r1_w_heap_size_1_1 : w1.frozen? ⟨w.heap.size + 1, 1, none⟩ = false := (by rw [hf1 _ _ (by first | (simp; done) | (simp; omega) | omega)]; first | (simp [go_sem]; done) | assumption); have k1_w_heap_size_1_2 : w1.cell? ⟨w.heap.size + 1, 2, none⟩ = some (.int .i64 x.cell) := (by rw [hc1 _ _ (by first | (simp; done) | (simp; omega) | omega)]; first | (simp [go_sem]; done) | assumption); have r1_w_heap_size_1_2 : w1.frozen? ⟨w.heap.size + 1, 2, none⟩ = false := (by rw [hf1 _ _ (by first | (simp; done) | (simp; omega) | omega)]; first | (simp [go_sem]; done) | assumption))
    clear hc1 hf1
    go_wp2_with fail
    go_ret
    exact ⟨rfl, (by repeat' (first | with_reducible exact HW1.out | with_reducible exact Below.refl _ _ | with_reducible refine Below.drew ?_ | with_reducible refine Below.drewN' ?_ _ | with_reducible refine Below.alloc ?_ ?_ _ | with_reducible refine Below.setCell ?_ ?_ _ | (simp; done) | (simp; omega) | omega))⟩
  · have e2 : (v.kind == 2) = false := by rw [beq_eq_false_iff_ne]; exact h2
    have e3 : (x.kind == 0) = false := by rw [beq_eq_false_iff_ne]; exact h3
    have e4 : (v.kind == 3) = false := by rw [beq_eq_false_iff_ne]; exact h4
    have e5 : (x.kind == 1) = false := by rw [beq_eq_false_iff_ne]; exact h5
    go_enter Tryd.func21, Tryd.ntmps21
    go_wp2_with fail
    refine (Far_any v o hv.1 _).mono ?_
    rw [HK.out]
    (rintro e w1 ⟨rfl, hb⟩; obtain ⟨hc1, hf1⟩ := bcell hb; have hz1 := hb.size; (try simp at hz1); have HW1 := Lib.hid (show Below w.heap.size w w1 from Below.trans (by repeat' (first | with_reducible exact HW0.out | with_reducible exact Below.refl _ _ | with_reducible refine Below.drew ?_ | with_reducible refine Below.drewN' ?_ _ | with_reducible refine Below.alloc ?_ ?_ _ | with_reducible refine Below.setCell ?_ ?_ _ | (simp; done) | (simp; omega) | omega)) (hb.mono (by first | (simp; done) | (simp; omega) | omega))); clear hb; (try have z10 : w.heap.size < w1.heap.size := by omega); (try have z11 : w.heap.size + 1 < w1.heap.size := by omega); (try have z12 : w.heap.size + 1 + 1 < w1.heap.size := by omega); (try have z13 : w.heap.size + 1 + 1 + 1 < w1.heap.size := by omega); (try have z14 : w.heap.size + 1 + 1 + 1 + 1 < w1.heap.size := by omega); (try have z15 : w.heap.size + 1 + 1 + 1 + 1 + 1 < w1.heap.size := by omega); (try have z16 : w.heap.size + 1 + 1 + 1 + 1 + 1 + 1 < w1.heap.size := by omega); (try have z17 : w.heap.size + 1 + 1 + 1 + 1 + 1 + 1 + 1 < w1.heap.size := by omega))
    (have k1_w_heap_size_0 : w1.cell? ⟨w.heap.size, 0, none⟩ = some (.int .i64 v.kind) := (by rw [hc1 _ _ (by first | (simp; done) | (simp; omega) | omega)]; first | (simp [go_sem]; done) | assumption); have r1_w_heap_size_0 : w1.frozen? ⟨w.heap.size, 0, none⟩ = false := (by rw [hf1 _ _ (by first | (simp; done) | (simp; omega) | omega)]; first | (simp [go_sem]; done) | assumption); have k1_w_heap_size_1 : w1.cell? ⟨w.heap.size, 1, none⟩ = some (.int .i64 v.n) := (by rw [hc1 _ _ (by first | (simp; done) | (simp; omega) | omega)]; first | (simp [go_sem]; done) | assumption); have r1_w_heap_size_1 : w1.frozen? ⟨w.heap.size, 1, none⟩ = false := (by rw [hf1 _ _ (by first | (simp; done) | (simp; omega) | omega)]; first | (simp [go_sem]; done) | assumption); have k1_w_heap_size_2 : w1.cell? ⟨w.heap.size, 2, none⟩ = some (.int .i64 v.cell) := (by rw [hc1 _ _ (by first | (simp; done) | (simp; omega) | omega)]; first | (simp [go_sem]; done) | assumption); have r1_w_heap_size_2 : w1.frozen? ⟨w.heap.size, 2, none⟩ = false := (by rw [hf1 _ _ (by first | (simp; done) | (simp; omega) | omega)]; first | (simp [go_sem]; done) | assumption))
    (have k1_w_heap_size_1_0 : w1.cell? ⟨w.heap.size + 1, 0, none⟩ = some (.int .i64 x.kind) := (by rw [hc1 _ _ (by first | (simp; done) | (simp; omega) | omega)]; first | (simp [go_sem]; done) | assumption); have r1_w_heap_size_1_0 : w1.frozen? ⟨w.heap.size + 1, 0, none⟩ = false := (by rw [hf1 _ _ (by first | (simp; done) | (simp; omega) | omega)]; first | (simp [go_sem]; done) | assumption); have k1_w_heap_size_1_1 : w1.cell? ⟨w.heap.size + 1, 1, none⟩ = some (.int .i64 x.n) := (by rw [hc1 _ _ (by first | (simp; done) | (simp; omega) | omega)]; first | (simp [go_sem]; done) | assumption); have r1_w_heap_size_1_1 : w1.frozen? ⟨w.heap.size + 1, 1, none⟩ = false := (by rw [hf1 _ _ (by first | (simp; done) | (simp; omega) | omega)]; first | (simp [go_sem]; done) | assumption); have k1_w_heap_size_1_2 : w1.cell? ⟨w.heap.size + 1, 2, none⟩ = some (.int .i64 x.cell) := (by rw [hc1 _ _ (by first | (simp; done) | (simp; omega) | omega)]; first | (simp [go_sem]; done) | assumption); have r1_w_heap_size_1_2 : w1.frozen? ⟨w.heap.size + 1, 2, none⟩ = false := (by rw [hf1 _ _ (by first | (simp; done) | (simp; omega) | omega)]; first | (simp [go_sem]; done) | assumption))
    clear hc1 hf1
    go_wp2_with fail
    go_ret
    exact ⟨rfl, (by repeat' (first | with_reducible exact HW1.out | with_reducible exact Below.refl _ _ | with_reducible refine Below.drew ?_ | with_reducible refine Below.drewN' ?_ _ | with_reducible refine Below.alloc ?_ ?_ _ | with_reducible refine Below.setCell ?_ ?_ _ | (simp; done) | (simp; omega) | omega))⟩

set_option maxRecDepth 100000 in
set_option maxHeartbeats 1000000 in
theorem Store_slot (b : Nat) (code : Value) (told : Nat → Int) (time : Int) (out : Value) (M : Mach) (w : World) (hI : Img w b 108 (mimg code told time out M)) (n o cell : Int) (x : Val) (hx : x.kind ≠ 0) (q : Nat) (hq : q < 16) (hke : P.far ⟨3, n, cell⟩ o = ((q : Int) - 16, 0)) :
    Calls Tryd.prog 21 #[.pointer (some ⟨b, 0, none⟩), .agg #[.int .i64 3, .int .i64 n, .int .i64 cell], .int .i64 o, .agg #[.int .i64 x.kind, .int .i64 x.n, .int .i64 x.cell]] w fun e w' =>
      e = .returned (.int .i64 0) ∧ Img w' b 108 (mimg code told time out { M with slots := upd M.slots q x }) ∧ But b w w' := by
  have HW0 := Lib.hid (Below.refl w.heap.size w)
  have hlt := hI.lt (by omega)
  have q7 : (q : Int) < 16 := by omega
  have HI := Lib.hid hI
  have HK := Lib.hid hke
  clear hI hke
  have e16 : (q : Int) - 16 + 16 = q := by omega
  have e3 : (x.kind == 0) = false := by rw [beq_eq_false_iff_ne]; exact hx
  go_enter Tryd.func21, Tryd.ntmps21
  go_wp2_with fail
  refine (Far_any ⟨3, n, cell⟩ o (by simp) _).mono ?_
  rw [HK.out]
  (rintro e w1 ⟨rfl, hb⟩; obtain ⟨hc1, hf1⟩ := bcell hb; have hz1 := hb.size; (try simp at hz1); have HW1 := Lib.hid (show Below w.heap.size w w1 from Below.trans (by repeat' (first | with_reducible exact HW0.out | with_reducible exact Below.refl _ _ | with_reducible refine Below.drew ?_ | with_reducible refine Below.drewN' ?_ _ | with_reducible refine Below.alloc ?_ ?_ _ | with_reducible refine Below.setCell ?_ ?_ _ | (simp; done) | (simp; omega) | omega)) (hb.mono (by first | (simp; done) | (simp; omega) | omega))); clear hb; (try have z10 : w.heap.size < w1.heap.size := by omega); (try have z11 : w.heap.size + 1 < w1.heap.size := by omega); (try have z12 : w.heap.size + 1 + 1 < w1.heap.size := by omega); (try have z13 : w.heap.size + 1 + 1 + 1 < w1.heap.size := by omega); (try have z14 : w.heap.size + 1 + 1 + 1 + 1 < w1.heap.size := by omega); (try have z15 : w.heap.size + 1 + 1 + 1 + 1 + 1 < w1.heap.size := by omega); (try have z16 : w.heap.size + 1 + 1 + 1 + 1 + 1 + 1 < w1.heap.size := by omega); (try have z17 : w.heap.size + 1 + 1 + 1 + 1 + 1 + 1 + 1 < w1.heap.size := by omega))
  (have k1_w_heap_size_0 : w1.cell? ⟨w.heap.size, 0, none⟩ = some (.int .i64 3) := (by rw [hc1 _ _ (by first | (simp; done) | (simp; omega) | omega)]; first | (simp [go_sem]; done) | assumption); have r1_w_heap_size_0 : w1.frozen? ⟨w.heap.size, 0, none⟩ = false := (by rw [hf1 _ _ (by first | (simp; done) | (simp; omega) | omega)]; first | (simp [go_sem]; done) | assumption); have k1_w_heap_size_1 : w1.cell? ⟨w.heap.size, 1, none⟩ = some (.int .i64 n) := (by rw [hc1 _ _ (by first | (simp; done) | (simp; omega) | omega)]; first | (simp [go_sem]; done) | assumption); have r1_w_heap_size_1 : w1.frozen? ⟨w.heap.size, 1, none⟩ = false := (by rw [hf1 _ _ (by first | (simp; done) | (simp; omega) | omega)]; first | (simp [go_sem]; done) | assumption); have k1_w_heap_size_2 : w1.cell? ⟨w.heap.size, 2, none⟩ = some (.int .i64 cell) := (by rw [hc1 _ _ (by first | (simp; done) | (simp; omega) | omega)]; first | (simp [go_sem]; done) | assumption); have r1_w_heap_size_2 : w1.frozen? ⟨w.heap.size, 2, none⟩ = false := (by rw [hf1 _ _ (by first | (simp; done) | (simp; omega) | omega)]; first | (simp [go_sem]; done) | assumption))
  (have k1_w_heap_size_1_0 : w1.cell? ⟨w.heap.size + 1, 0, none⟩ = some (.int .i64 x.kind) := (by rw [hc1 _ _ (by first | (simp; done) | (simp; omega) | omega)]; first | (simp [go_sem]; done) | assumption); have r1_w_heap_size_1_0 : w1.frozen? ⟨w.heap.size + 1, 0, none⟩ = false := (by rw [hf1 _ _ (by first | (simp; done) | (simp; omega) | omega)]; first | (simp [go_sem]; done) | assumption); have k1_w_heap_size_1_1 : w1.cell? ⟨w.heap.size + 1, 1, none⟩ = some (.int .i64 x.n) := (by rw [hc1 _ _ (by first | (simp; done) | (simp; omega) | omega)]; first | (simp [go_sem]; done) | assumption); have r1_w_heap_size_1_1 : w1.frozen? ⟨w.heap.size + 1, 1, none⟩ = false := (by rw [hf1 _ _ (by first | (simp; done) | (simp; omega) | omega)]; first | (simp [go_sem]; done) | assumption); have k1_w_heap_size_1_2 : w1.cell? ⟨w.heap.size + 1, 2, none⟩ = some (.int .i64 x.cell) := (by rw [hc1 _ _ (by first | (simp; done) | (simp; omega) | omega)]; first | (simp [go_sem]; done) | assumption); have r1_w_heap_size_1_2 : w1.frozen? ⟨w.heap.size + 1, 2, none⟩ = false := (by rw [hf1 _ _ (by first | (simp; done) | (simp; omega) | omega)]; first | (simp [go_sem]; done) | assumption))
  have I1 := HI.out.later HW1.out hlt
  have d0 := I1.cell (34 + q * 3) (by omega)
  have d1 := I1.cell (34 + q * 3 + 1) (by omega)
  have d2 := I1.cell (34 + q * 3 + 2) (by omega)
  have s0 := I1.free (34 + q * 3) (by omega)
  have s1 := I1.free (34 + q * 3 + 1) (by omega)
  have s2 := I1.free (34 + q * 3 + 2) (by omega)
  have HI1 := Lib.hid I1
  clear hc1 hf1 I1
  go_wp2_with fail
  go_region
  all_goals
    go_wp2_with fail
    go_ret
    refine ⟨rfl, ?_, (by repeat' (first | with_reducible exact (But.of HW1.out) | with_reducible exact But.refl _ _ | with_reducible refine But.drew ?_ | with_reducible refine But.drewN ?_ _ | with_reducible refine But.alloc ?_ _ | with_reducible refine But.setCell ?_ ?_ _ | (exact .inl rfl) | (simp; done) | (simp; omega) | omega))⟩
    have K := (((HI1.out.set (j := 34 + q * 3) (by omega) (vcell x 0)).set (j := 34 + q * 3 + 1) (by omega) (vcell x 1)).set (j := 34 + q * 3 + 2) (by omega) (vcell x 2)).congr (mimg_setslot hq x)
    exact K

set_option maxRecDepth 100000 in
set_option maxHeartbeats 1000000 in
theorem Store_cell (b : Nat) (code : Value) (told : Nat → Int) (time : Int) (out : Value) (M : Mach) (w : World) (hI : Img w b 108 (mimg code told time out M)) (n o : Int) (xn xc : Int) (cell q : Nat) (hc : cell < 4) (hq : q < 4) (hke : P.far ⟨4, n, cell⟩ o = ((q : Int), 0)) :
    Calls Tryd.prog 21 #[.pointer (some ⟨b, 0, none⟩), .agg #[.int .i64 4, .int .i64 n, .int .i64 cell], .int .i64 o, .agg #[.int .i64 1, .int .i64 xn, .int .i64 xc]] w fun e w' =>
      e = .returned (.int .i64 0) ∧ Img w' b 108 (mimg code told time out { M with cells := upd M.cells (cell * 4 + q) xn }) ∧ But b w w' := by
  have HW0 := Lib.hid (Below.refl w.heap.size w)
  have hlt := hI.lt (by omega)
  have q7 : (q : Int) < 4 := by omega
  have q8 : (cell : Int) < 4 := by omega
  have HI := Lib.hid hI
  have HK := Lib.hid hke
  clear hI hke
  go_enter Tryd.func21, Tryd.ntmps21
  go_wp2_with fail
  refine (Far_any ⟨4, n, cell⟩ o (by simp) _).mono ?_
  rw [HK.out]
  (rintro e w1 ⟨rfl, hb⟩; obtain ⟨hc1, hf1⟩ := bcell hb; have hz1 := hb.size; (try simp at hz1); have HW1 := Lib.hid (show Below w.heap.size w w1 from Below.trans (by repeat' (first | with_reducible exact HW0.out | with_reducible exact Below.refl _ _ | with_reducible refine Below.drew ?_ | with_reducible refine Below.drewN' ?_ _ | with_reducible refine Below.alloc ?_ ?_ _ | with_reducible refine Below.setCell ?_ ?_ _ | (simp; done) | (simp; omega) | omega)) (hb.mono (by first | (simp; done) | (simp; omega) | omega))); clear hb; (try have z10 : w.heap.size < w1.heap.size := by omega); (try have z11 : w.heap.size + 1 < w1.heap.size := by omega); (try have z12 : w.heap.size + 1 + 1 < w1.heap.size := by omega); (try have z13 : w.heap.size + 1 + 1 + 1 < w1.heap.size := by omega); (try have z14 : w.heap.size + 1 + 1 + 1 + 1 < w1.heap.size := by omega); (try have z15 : w.heap.size + 1 + 1 + 1 + 1 + 1 < w1.heap.size := by omega); (try have z16 : w.heap.size + 1 + 1 + 1 + 1 + 1 + 1 < w1.heap.size := by omega); (try have z17 : w.heap.size + 1 + 1 + 1 + 1 + 1 + 1 + 1 < w1.heap.size := by omega))
  (have k1_w_heap_size_0 : w1.cell? ⟨w.heap.size, 0, none⟩ = some (.int .i64 4) := (by rw [hc1 _ _ (by first | (simp; done) | (simp; omega) | omega)]; first | (simp [go_sem]; done) | assumption); have r1_w_heap_size_0 : w1.frozen? ⟨w.heap.size, 0, none⟩ = false := (by rw [hf1 _ _ (by first | (simp; done) | (simp; omega) | omega)]; first | (simp [go_sem]; done) | assumption); have k1_w_heap_size_1 : w1.cell? ⟨w.heap.size, 1, none⟩ = some (.int .i64 n) := (by rw [hc1 _ _ (by first | (simp; done) | (simp; omega) | omega)]; first | (simp [go_sem]; done) | assumption); have r1_w_heap_size_1 : w1.frozen? ⟨w.heap.size, 1, none⟩ = false := (by rw [hf1 _ _ (by first | (simp; done) | (simp; omega) | omega)]; first | (simp [go_sem]; done) | assumption); have k1_w_heap_size_2 : w1.cell? ⟨w.heap.size, 2, none⟩ = some (.int .i64 cell) := (by rw [hc1 _ _ (by first | (simp; done) | (simp; omega) | omega)]; first | (simp [go_sem]; done) | assumption); have r1_w_heap_size_2 : w1.frozen? ⟨w.heap.size, 2, none⟩ = false := (by rw [hf1 _ _ (by first | (simp; done) | (simp; omega) | omega)]; first | (simp [go_sem]; done) | assumption))
  (have k1_w_heap_size_1_0 : w1.cell? ⟨w.heap.size + 1, 0, none⟩ = some (.int .i64 1) := (by rw [hc1 _ _ (by first | (simp; done) | (simp; omega) | omega)]; first | (simp [go_sem]; done) | assumption); have r1_w_heap_size_1_0 : w1.frozen? ⟨w.heap.size + 1, 0, none⟩ = false := (by rw [hf1 _ _ (by first | (simp; done) | (simp; omega) | omega)]; first | (simp [go_sem]; done) | assumption); have k1_w_heap_size_1_1 : w1.cell? ⟨w.heap.size + 1, 1, none⟩ = some (.int .i64 xn) := (by rw [hc1 _ _ (by first | (simp; done) | (simp; omega) | omega)]; first | (simp [go_sem]; done) | assumption); have r1_w_heap_size_1_1 : w1.frozen? ⟨w.heap.size + 1, 1, none⟩ = false := (by rw [hf1 _ _ (by first | (simp; done) | (simp; omega) | omega)]; first | (simp [go_sem]; done) | assumption); have k1_w_heap_size_1_2 : w1.cell? ⟨w.heap.size + 1, 2, none⟩ = some (.int .i64 xc) := (by rw [hc1 _ _ (by first | (simp; done) | (simp; omega) | omega)]; first | (simp [go_sem]; done) | assumption); have r1_w_heap_size_1_2 : w1.frozen? ⟨w.heap.size + 1, 2, none⟩ = false := (by rw [hf1 _ _ (by first | (simp; done) | (simp; omega) | omega)]; first | (simp [go_sem]; done) | assumption))
  have I1 := HI.out.later HW1.out hlt
  have d0 := I1.cell (90 + cell * 4 + q) (by omega)
  have s0 := I1.free (90 + cell * 4 + q) (by omega)
  have HI1 := Lib.hid I1
  clear hc1 hf1 I1
  go_wp2_with fail
  go_region
  all_goals
    go_wp2_with fail
    go_ret
    refine ⟨rfl, ?_, (by repeat' (first | with_reducible exact (But.of HW1.out) | with_reducible exact But.refl _ _ | with_reducible refine But.drew ?_ | with_reducible refine But.drewN ?_ _ | with_reducible refine But.alloc ?_ _ | with_reducible refine But.setCell ?_ ?_ _ | (exact .inl rfl) | (simp; done) | (simp; omega) | omega))⟩
    have K := (HI1.out.set (j := 90 + cell * 4 + q) (by omega) (.int .i64 xn)).congr (fun j hj => (congrFun (congrFun (congrArg _ (Nat.add_assoc 90 (cell * 4) q)) _) _).trans (mimg_setcell (by omega : cell * 4 + q < 16) xn j hj))
    exact K
end Go.Proofs.YtfpoicdfkjbknaaDoor.W
