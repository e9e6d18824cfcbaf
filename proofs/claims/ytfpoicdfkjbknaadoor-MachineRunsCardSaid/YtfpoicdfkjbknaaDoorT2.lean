/- The walk of machine.far and machine.load: what is read at a place. Conditions: the machine lies in a block of 108 cells. -/
import Derived.Test.YtfpoicdfkjbknaaDoorT1
import Derived.Test.YtfpoicdfkjbknaaDoorWalkMach
import Derived.Test.YtfpoicdfkjbknaaDoorPureRun
namespace Go.Proofs.YtfpoicdfkjbknaaDoor.W
open Go.RowKit Go.Proofs.YtfpoicdfkjbknaaDoor.P
set_option linter.unusedSimpArgs false
set_option linter.unusedVariables false

theorem far_ok {v : Val} {o : Int} (h : (P.far v o).2 = 0) (hk : v.kind ≠ 0 ∧ v.kind ≠ 1) : low v.kind ≤ (P.far v o).1 ∧ (P.far v o).1 ≤ high v.kind := by
  unfold P.far at *
  rw [if_neg hk.1, if_neg hk.2] at *
  split at h
  · simp at h
  · rename_i h'; rw [if_neg h']; simp only; omega
theorem far_kind {v : Val} {o : Int} (h : (P.far v o).2 = 0) : v.kind ≠ 0 ∧ v.kind ≠ 1 := by
  unfold P.far at h
  constructor <;> (intro e; simp [e] at h)

set_option maxRecDepth 100000 in
set_option maxHeartbeats 1000000 in
theorem Load_err (b : Nat) (told : Nat → Int) (M : Mach) (w : World) (v : Val) (hv : VOk v) (o k er : Int) (hke : P.far v o = (k, er)) (he : er ≠ 0) :
    Calls Tryd.prog 20 #[.pointer (some ⟨b, 0, none⟩), .agg #[.int .i64 v.kind, .int .i64 v.n, .int .i64 v.cell], .int .i64 o] w fun e w' =>
      e = .returned (.tuple #[.agg #[.int .i64 0, .int .i64 0, .int .i64 0], .int .i64 er]) ∧ Below w.heap.size w w' := by
  have HW0 := Lib.hid (Below.refl w.heap.size w)
  have HK := Lib.hid hke
  clear hke
  have he2 : (er == 0) = false := by rw [beq_eq_false_iff_ne]; exact he
  go_enter Tryd.func20, Tryd.ntmps20
  go_wp2_with fail
  refine (Far_any v o hv.1 _).mono ?_
  rw [HK.out]
  (rintro e w1 ⟨rfl, hb⟩; obtain ⟨hc1, hf1⟩ := bcell hb; have hz1 := hb.size; (try simp at hz1); have HW1 := Lib.hid (show Below w.heap.size w w1 from Below.trans (by repeat' (first | with_reducible exact HW0.out | with_reducible exact Below.refl _ _ | with_reducible refine Below.drew ?_ | with_reducible refine Below.drewN' ?_ _ | with_reducible refine Below.alloc ?_ ?_ _ | with_reducible refine Below.setCell ?_ ?_ _ | (simp; done) | (simp; omega) | omega)) (hb.mono (by first | (simp; done) | (simp; omega) | omega))); clear hb; (try have z10 : w.heap.size < w1.heap.size := by omega); (try have z11 : w.heap.size + 1 < w1.heap.size := by omega); (try have z12 : w.heap.size + 1 + 1 < w1.heap.size := by omega); (try have z13 : w.heap.size + 1 + 1 + 1 < w1.heap.size := by omega); (try have z14 : w.heap.size + 1 + 1 + 1 + 1 < w1.heap.size := by omega); (try have z15 : w.heap.size + 1 + 1 + 1 + 1 + 1 < w1.heap.size := by omega); (try have z16 : w.heap.size + 1 + 1 + 1 + 1 + 1 + 1 < w1.heap.size := by omega); (try have z17 : w.heap.size + 1 + 1 + 1 + 1 + 1 + 1 + 1 < w1.heap.size := by omega))
  (have k1_w_heap_size_1_0 : w1.cell? ⟨w.heap.size + 1, 0, none⟩ = some (.int .i64 0) := (by rw [hc1 _ _ (by first | (simp; done) | (simp; omega) | omega)]; first | (simp [go_sem]; done) | assumption); have r1_w_heap_size_1_0 : w1.frozen? ⟨w.heap.size + 1, 0, none⟩ = false := (by rw [hf1 _ _ (by first | (simp; done) | (simp; omega) | omega)]; first | (simp [go_sem]; done) | assumption); have k1_w_heap_size_1_1 : w1.cell? ⟨w.heap.size + 1, 1, none⟩ = some (.int .i64 0) := (by rw [hc1 _ _ (by first | (simp; done) | (simp; omega) | omega)]; first | (simp [go_sem]; done) | assumption); have r1_w_heap_size_1_1 : w1.frozen? ⟨w.heap.size + 1, 1, none⟩ = false := (by rw [hf1 _ _ (by first | (simp; done) | (simp; omega) | omega)]; first | (simp [go_sem]; done) | assumption); have k1_w_heap_size_1_2 : w1.cell? ⟨w.heap.size + 1, 2, none⟩ = some (.int .i64 0) := (by rw [hc1 _ _ (by first | (simp; done) | (simp; omega) | omega)]; first | (simp [go_sem]; done) | assumption); have r1_w_heap_size_1_2 : w1.frozen? ⟨w.heap.size + 1, 2, none⟩ = false := (by rw [hf1 _ _ (by first | (simp; done) | (simp; omega) | omega)]; first | (simp [go_sem]; done) | assumption))
  clear hc1 hf1
  go_wp2_with fail
  refine bodyPost_ret ?_ rfl ⟨rfl, (by repeat' (first | with_reducible exact HW1.out | with_reducible exact Below.refl _ _ | with_reducible refine Below.drew ?_ | with_reducible refine Below.drewN' ?_ _ | with_reducible refine Below.alloc ?_ ?_ _ | with_reducible refine Below.setCell ?_ ?_ _ | (simp; done) | (simp; omega) | omega))⟩
  simp [results, Tryd.results20, go_sem, *]

set_option maxRecDepth 100000 in
set_option maxHeartbeats 1000000 in
theorem Load_ctx (b : Nat) (code : Value) (told : Nat → Int) (time : Int) (out : Value) (M : Mach) (w : World) (hI : Img w b 108 (mimg code told time out M)) (n cell o : Int) (q : Nat) (hq : q < 8) (hke : P.far ⟨2, n, cell⟩ o = ((q : Int), 0)) :
    Calls Tryd.prog 20 #[.pointer (some ⟨b, 0, none⟩), .agg #[.int .i64 2, .int .i64 n, .int .i64 cell], .int .i64 o] w fun e w' =>
      e = .returned (.tuple #[.agg #[.int .i64 1, .int .i64 (told q), .int .i64 0], .int .i64 0]) ∧ Below w.heap.size w w' := by
  have HW0 := Lib.hid (Below.refl w.heap.size w)
  have hlt := hI.lt (by omega)
  have q7 : (q : Int) < 8 := by omega
  have HI := Lib.hid hI
  have HK := Lib.hid hke
  clear hI hke
  go_enter Tryd.func20, Tryd.ntmps20
  go_wp2_with fail
  refine (Far_any ⟨2, n, cell⟩ o (by simp) _).mono ?_
  rw [HK.out]
  (rintro e w1 ⟨rfl, hb⟩; obtain ⟨hc1, hf1⟩ := bcell hb; have hz1 := hb.size; (try simp at hz1); have HW1 := Lib.hid (show Below w.heap.size w w1 from Below.trans (by repeat' (first | with_reducible exact HW0.out | with_reducible exact Below.refl _ _ | with_reducible refine Below.drew ?_ | with_reducible refine Below.drewN' ?_ _ | with_reducible refine Below.alloc ?_ ?_ _ | with_reducible refine Below.setCell ?_ ?_ _ | (simp; done) | (simp; omega) | omega)) (hb.mono (by first | (simp; done) | (simp; omega) | omega))); clear hb; (try have z10 : w.heap.size < w1.heap.size := by omega); (try have z11 : w.heap.size + 1 < w1.heap.size := by omega); (try have z12 : w.heap.size + 1 + 1 < w1.heap.size := by omega); (try have z13 : w.heap.size + 1 + 1 + 1 < w1.heap.size := by omega); (try have z14 : w.heap.size + 1 + 1 + 1 + 1 < w1.heap.size := by omega); (try have z15 : w.heap.size + 1 + 1 + 1 + 1 + 1 < w1.heap.size := by omega); (try have z16 : w.heap.size + 1 + 1 + 1 + 1 + 1 + 1 < w1.heap.size := by omega); (try have z17 : w.heap.size + 1 + 1 + 1 + 1 + 1 + 1 + 1 < w1.heap.size := by omega))
  (have k1_w_heap_size_0 : w1.cell? ⟨w.heap.size, 0, none⟩ = some (.int .i64 2) := (by rw [hc1 _ _ (by first | (simp; done) | (simp; omega) | omega)]; first | (simp [go_sem]; done) | assumption); have r1_w_heap_size_0 : w1.frozen? ⟨w.heap.size, 0, none⟩ = false := (by rw [hf1 _ _ (by first | (simp; done) | (simp; omega) | omega)]; first | (simp [go_sem]; done) | assumption); have k1_w_heap_size_1 : w1.cell? ⟨w.heap.size, 1, none⟩ = some (.int .i64 n) := (by rw [hc1 _ _ (by first | (simp; done) | (simp; omega) | omega)]; first | (simp [go_sem]; done) | assumption); have r1_w_heap_size_1 : w1.frozen? ⟨w.heap.size, 1, none⟩ = false := (by rw [hf1 _ _ (by first | (simp; done) | (simp; omega) | omega)]; first | (simp [go_sem]; done) | assumption); have k1_w_heap_size_2 : w1.cell? ⟨w.heap.size, 2, none⟩ = some (.int .i64 cell) := (by rw [hc1 _ _ (by first | (simp; done) | (simp; omega) | omega)]; first | (simp [go_sem]; done) | assumption); have r1_w_heap_size_2 : w1.frozen? ⟨w.heap.size, 2, none⟩ = false := (by rw [hf1 _ _ (by first | (simp; done) | (simp; omega) | omega)]; first | (simp [go_sem]; done) | assumption))
  (have k1_w_heap_size_1_0 : w1.cell? ⟨w.heap.size + 1, 0, none⟩ = some (.int .i64 0) := (by rw [hc1 _ _ (by first | (simp; done) | (simp; omega) | omega)]; first | (simp [go_sem]; done) | assumption); have r1_w_heap_size_1_0 : w1.frozen? ⟨w.heap.size + 1, 0, none⟩ = false := (by rw [hf1 _ _ (by first | (simp; done) | (simp; omega) | omega)]; first | (simp [go_sem]; done) | assumption); have k1_w_heap_size_1_1 : w1.cell? ⟨w.heap.size + 1, 1, none⟩ = some (.int .i64 0) := (by rw [hc1 _ _ (by first | (simp; done) | (simp; omega) | omega)]; first | (simp [go_sem]; done) | assumption); have r1_w_heap_size_1_1 : w1.frozen? ⟨w.heap.size + 1, 1, none⟩ = false := (by rw [hf1 _ _ (by first | (simp; done) | (simp; omega) | omega)]; first | (simp [go_sem]; done) | assumption); have k1_w_heap_size_1_2 : w1.cell? ⟨w.heap.size + 1, 2, none⟩ = some (.int .i64 0) := (by rw [hc1 _ _ (by first | (simp; done) | (simp; omega) | omega)]; first | (simp [go_sem]; done) | assumption); have r1_w_heap_size_1_2 : w1.frozen? ⟨w.heap.size + 1, 2, none⟩ = false := (by rw [hf1 _ _ (by first | (simp; done) | (simp; omega) | omega)]; first | (simp [go_sem]; done) | assumption))
  have c1 : w1.cell? ⟨b, 82 + q, none⟩ = some (.int .i64 (told q)) := ((HI.out.later HW1.out hlt).cell _ (by omega)).trans (congrArg some (mimg_told hq (by omega)))
  clear hc1 hf1
  go_wp2_with fail
  refine bodyPost_ret ?_ rfl ⟨rfl, (by repeat' (first | with_reducible exact HW1.out | with_reducible exact Below.refl _ _ | with_reducible refine Below.drew ?_ | with_reducible refine Below.drewN' ?_ _ | with_reducible refine Below.alloc ?_ ?_ _ | with_reducible refine Below.setCell ?_ ?_ _ | (simp; done) | (simp; omega) | omega))⟩
  simp [results, Tryd.results20, go_sem, *]

set_option maxRecDepth 100000 in
set_option maxHeartbeats 1000000 in
theorem Load_cell (b : Nat) (code : Value) (told : Nat → Int) (time : Int) (out : Value) (M : Mach) (w : World) (hI : Img w b 108 (mimg code told time out M)) (n o : Int) (cell q : Nat) (hc : cell < 4) (hq : q < 4) (hke : P.far ⟨4, n, cell⟩ o = ((q : Int), 0)) :
    Calls Tryd.prog 20 #[.pointer (some ⟨b, 0, none⟩), .agg #[.int .i64 4, .int .i64 n, .int .i64 cell], .int .i64 o] w fun e w' =>
      e = .returned (.tuple #[.agg #[.int .i64 1, .int .i64 (M.cells (cell * 4 + q)), .int .i64 0], .int .i64 0]) ∧ Below w.heap.size w w' := by
  have HW0 := Lib.hid (Below.refl w.heap.size w)
  have hlt := hI.lt (by omega)
  have q7 : (q : Int) < 4 := by omega
  have q8 : (cell : Int) < 4 := by omega
  have HI := Lib.hid hI
  have HK := Lib.hid hke
  clear hI hke
  go_enter Tryd.func20, Tryd.ntmps20
  go_wp2_with fail
  refine (Far_any ⟨4, n, cell⟩ o (by simp) _).mono ?_
  rw [HK.out]
  (rintro e w1 ⟨rfl, hb⟩; obtain ⟨hc1, hf1⟩ := bcell hb; have hz1 := hb.size; (try simp at hz1); have HW1 := Lib.hid (show Below w.heap.size w w1 from Below.trans (by repeat' (first | with_reducible exact HW0.out | with_reducible exact Below.refl _ _ | with_reducible refine Below.drew ?_ | with_reducible refine Below.drewN' ?_ _ | with_reducible refine Below.alloc ?_ ?_ _ | with_reducible refine Below.setCell ?_ ?_ _ | (simp; done) | (simp; omega) | omega)) (hb.mono (by first | (simp; done) | (simp; omega) | omega))); clear hb; (try have z10 : w.heap.size < w1.heap.size := by omega); (try have z11 : w.heap.size + 1 < w1.heap.size := by omega); (try have z12 : w.heap.size + 1 + 1 < w1.heap.size := by omega); (try have z13 : w.heap.size + 1 + 1 + 1 < w1.heap.size := by omega); (try have z14 : w.heap.size + 1 + 1 + 1 + 1 < w1.heap.size := by omega); (try have z15 : w.heap.size + 1 + 1 + 1 + 1 + 1 < w1.heap.size := by omega); (try have z16 : w.heap.size + 1 + 1 + 1 + 1 + 1 + 1 < w1.heap.size := by omega); (try have z17 : w.heap.size + 1 + 1 + 1 + 1 + 1 + 1 + 1 < w1.heap.size := by omega))
  (have k1_w_heap_size_0 : w1.cell? ⟨w.heap.size, 0, none⟩ = some (.int .i64 4) := (by rw [hc1 _ _ (by first | (simp; done) | (simp; omega) | omega)]; first | (simp [go_sem]; done) | assumption); have r1_w_heap_size_0 : w1.frozen? ⟨w.heap.size, 0, none⟩ = false := (by rw [hf1 _ _ (by first | (simp; done) | (simp; omega) | omega)]; first | (simp [go_sem]; done) | assumption); have k1_w_heap_size_1 : w1.cell? ⟨w.heap.size, 1, none⟩ = some (.int .i64 n) := (by rw [hc1 _ _ (by first | (simp; done) | (simp; omega) | omega)]; first | (simp [go_sem]; done) | assumption); have r1_w_heap_size_1 : w1.frozen? ⟨w.heap.size, 1, none⟩ = false := (by rw [hf1 _ _ (by first | (simp; done) | (simp; omega) | omega)]; first | (simp [go_sem]; done) | assumption); have k1_w_heap_size_2 : w1.cell? ⟨w.heap.size, 2, none⟩ = some (.int .i64 cell) := (by rw [hc1 _ _ (by first | (simp; done) | (simp; omega) | omega)]; first | (simp [go_sem]; done) | assumption); have r1_w_heap_size_2 : w1.frozen? ⟨w.heap.size, 2, none⟩ = false := (by rw [hf1 _ _ (by first | (simp; done) | (simp; omega) | omega)]; first | (simp [go_sem]; done) | assumption))
  (have k1_w_heap_size_1_0 : w1.cell? ⟨w.heap.size + 1, 0, none⟩ = some (.int .i64 0) := (by rw [hc1 _ _ (by first | (simp; done) | (simp; omega) | omega)]; first | (simp [go_sem]; done) | assumption); have r1_w_heap_size_1_0 : w1.frozen? ⟨w.heap.size + 1, 0, none⟩ = false := (by rw [hf1 _ _ (by first | (simp; done) | (simp; omega) | omega)]; first | (simp [go_sem]; done) | assumption); have k1_w_heap_size_1_1 : w1.cell? ⟨w.heap.size + 1, 1, none⟩ = some (.int .i64 0) := (by rw [hc1 _ _ (by first | (simp; done) | (simp; omega) | omega)]; first | (simp [go_sem]; done) | assumption); have r1_w_heap_size_1_1 : w1.frozen? ⟨w.heap.size + 1, 1, none⟩ = false := (by rw [hf1 _ _ (by first | (simp; done) | (simp; omega) | omega)]; first | (simp [go_sem]; done) | assumption); have k1_w_heap_size_1_2 : w1.cell? ⟨w.heap.size + 1, 2, none⟩ = some (.int .i64 0) := (by rw [hc1 _ _ (by first | (simp; done) | (simp; omega) | omega)]; first | (simp [go_sem]; done) | assumption); have r1_w_heap_size_1_2 : w1.frozen? ⟨w.heap.size + 1, 2, none⟩ = false := (by rw [hf1 _ _ (by first | (simp; done) | (simp; omega) | omega)]; first | (simp [go_sem]; done) | assumption))
  have c1 : w1.cell? ⟨b, 90 + cell * 4 + q, none⟩ = some (.int .i64 (M.cells (cell * 4 + q))) := ((HI.out.later HW1.out hlt).cell _ (by omega)).trans (congrArg some (mimg_cells (by omega : cell * 4 + q < 16) (by omega)))
  clear hc1 hf1
  go_wp2_with fail
  go_region
  all_goals
    go_wp2_with fail
    refine bodyPost_ret ?_ rfl ⟨rfl, (by repeat' (first | with_reducible exact HW1.out | with_reducible exact Below.refl _ _ | with_reducible refine Below.drew ?_ | with_reducible refine Below.drewN' ?_ _ | with_reducible refine Below.alloc ?_ ?_ _ | with_reducible refine Below.setCell ?_ ?_ _ | (simp; done) | (simp; omega) | omega))⟩
    simp [results, Tryd.results20, go_sem, *]

set_option maxRecDepth 100000 in
set_option maxHeartbeats 1000000 in
theorem Load_slot (b : Nat) (code : Value) (told : Nat → Int) (time : Int) (out : Value) (M : Mach) (w : World) (hI : Img w b 108 (mimg code told time out M)) (n o cell : Int) (q : Nat) (hq : q < 16) (hke : P.far ⟨3, n, cell⟩ o = ((q : Int) - 16, 0)) :
    Calls Tryd.prog 20 #[.pointer (some ⟨b, 0, none⟩), .agg #[.int .i64 3, .int .i64 n, .int .i64 cell], .int .i64 o] w fun e w' =>
      e = .returned (.tuple #[.agg #[.int .i64 (if (M.slots q).kind = 0 then 0 else (M.slots q).kind), .int .i64 (if (M.slots q).kind = 0 then 0 else (M.slots q).n), .int .i64 (if (M.slots q).kind = 0 then 0 else (M.slots q).cell)], .int .i64 (if (M.slots q).kind = 0 then 8 else 0)]) ∧ Below w.heap.size w w' := by
  have HW0 := Lib.hid (Below.refl w.heap.size w)
  have hlt := hI.lt (by omega)
  have q7 : (q : Int) < 16 := by omega
  have HI := Lib.hid hI
  have HK := Lib.hid hke
  clear hI hke
  have e16 : (q : Int) - 16 + 16 = q := by omega
  by_cases hz : (M.slots q).kind = 0
  · simp only [hz, if_true]
    have hz2 : ((M.slots q).kind == 0) = true := by rw [beq_iff_eq]; exact hz
    clear hz
    go_enter Tryd.func20, Tryd.ntmps20
    go_wp2_with fail
    refine (Far_any ⟨3, n, cell⟩ o (by simp) _).mono ?_
    rw [HK.out]
    (rintro e w1 ⟨rfl, hb⟩; obtain ⟨hc1, hf1⟩ := bcell hb; have hz1 := hb.size; (try simp at hz1); have HW1 := Lib.hid (show Below w.heap.size w w1 from Below.trans (by repeat' (first | with_reducible exact HW0.out | with_reducible exact Below.refl _ _ | with_reducible refine Below.drew ?_ | with_reducible refine Below.drewN' ?_ _ | with_reducible refine Below.alloc ?_ ?_ _ | with_reducible refine Below.setCell ?_ ?_ _ | (simp; done) | (simp; omega) | omega)) (hb.mono (by first | (simp; done) | (simp; omega) | omega))); clear hb; (try have z10 : w.heap.size < w1.heap.size := by omega); (try have z11 : w.heap.size + 1 < w1.heap.size := by omega); (try have z12 : w.heap.size + 1 + 1 < w1.heap.size := by omega); (try have z13 : w.heap.size + 1 + 1 + 1 < w1.heap.size := by omega); (try have z14 : w.heap.size + 1 + 1 + 1 + 1 < w1.heap.size := by omega); (try have z15 : w.heap.size + 1 + 1 + 1 + 1 + 1 < w1.heap.size := by omega); (try have z16 : w.heap.size + 1 + 1 + 1 + 1 + 1 + 1 < w1.heap.size := by omega); (try have z17 : w.heap.size + 1 + 1 + 1 + 1 + 1 + 1 + 1 < w1.heap.size := by omega))
    (have k1_w_heap_size_0 : w1.cell? ⟨w.heap.size, 0, none⟩ = some (.int .i64 3) := (by rw [hc1 _ _ (by first | (simp; done) | (simp; omega) | omega)]; first | (simp [go_sem]; done) | assumption); have r1_w_heap_size_0 : w1.frozen? ⟨w.heap.size, 0, none⟩ = false := (by rw [hf1 _ _ (by first | (simp; done) | (simp; omega) | omega)]; first | (simp [go_sem]; done) | assumption); have k1_w_heap_size_1 : w1.cell? ⟨w.heap.size, 1, none⟩ = some (.int .i64 n) := (by rw [hc1 _ _ (by first | (simp; done) | (simp; omega) | omega)]; first | (simp [go_sem]; done) | assumption); have r1_w_heap_size_1 : w1.frozen? ⟨w.heap.size, 1, none⟩ = false := (by rw [hf1 _ _ (by first | (simp; done) | (simp; omega) | omega)]; first | (simp [go_sem]; done) | assumption); have k1_w_heap_size_2 : w1.cell? ⟨w.heap.size, 2, none⟩ = some (.int .i64 cell) := (by rw [hc1 _ _ (by first | (simp; done) | (simp; omega) | omega)]; first | (simp [go_sem]; done) | assumption); have r1_w_heap_size_2 : w1.frozen? ⟨w.heap.size, 2, none⟩ = false := (by rw [hf1 _ _ (by first | (simp; done) | (simp; omega) | omega)]; first | (simp [go_sem]; done) | assumption))
    (have k1_w_heap_size_1_0 : w1.cell? ⟨w.heap.size + 1, 0, none⟩ = some (.int .i64 0) := (by rw [hc1 _ _ (by first | (simp; done) | (simp; omega) | omega)]; first | (simp [go_sem]; done) | assumption); have r1_w_heap_size_1_0 : w1.frozen? ⟨w.heap.size + 1, 0, none⟩ = false := (by rw [hf1 _ _ (by first | (simp; done) | (simp; omega) | omega)]; first | (simp [go_sem]; done) | assumption); have k1_w_heap_size_1_1 : w1.cell? ⟨w.heap.size + 1, 1, none⟩ = some (.int .i64 0) := (by rw [hc1 _ _ (by first | (simp; done) | (simp; omega) | omega)]; first | (simp [go_sem]; done) | assumption); have r1_w_heap_size_1_1 : w1.frozen? ⟨w.heap.size + 1, 1, none⟩ = false := (by rw [hf1 _ _ (by first | (simp; done) | (simp; omega) | omega)]; first | (simp [go_sem]; done) | assumption); have k1_w_heap_size_1_2 : w1.cell? ⟨w.heap.size + 1, 2, none⟩ = some (.int .i64 0) := (by rw [hc1 _ _ (by first | (simp; done) | (simp; omega) | omega)]; first | (simp [go_sem]; done) | assumption); have r1_w_heap_size_1_2 : w1.frozen? ⟨w.heap.size + 1, 2, none⟩ = false := (by rw [hf1 _ _ (by first | (simp; done) | (simp; omega) | omega)]; first | (simp [go_sem]; done) | assumption))
    have d0 : w1.cell? ⟨b, 34 + q * 3, none⟩ = some (.int .i64 0) := ((HI.out.later HW1.out hlt).cell _ (by omega)).trans (congrArg some ((mimg_slot hq (by omega : 0 < 3) (by omega)).trans ((vcell_0 _).trans (by rw [beq_iff_eq.1 hz2]))))
    have d1 : w1.cell? ⟨b, 34 + q * 3 + 1, none⟩ = some (.int .i64 (M.slots q).n) := ((HI.out.later HW1.out hlt).cell _ (by omega)).trans (congrArg some ((mimg_slot hq (by omega : 1 < 3) (by omega)).trans (vcell_1 _)))
    have d2 : w1.cell? ⟨b, 34 + q * 3 + 2, none⟩ = some (.int .i64 (M.slots q).cell) := ((HI.out.later HW1.out hlt).cell _ (by omega)).trans (congrArg some ((mimg_slot hq (by omega : 2 < 3) (by omega)).trans (vcell_2 _)))
    clear hc1 hf1
    go_wp2_with fail
    refine bodyPost_ret ?_ rfl ⟨rfl, (by repeat' (first | with_reducible exact HW1.out | with_reducible exact Below.refl _ _ | with_reducible refine Below.drew ?_ | with_reducible refine Below.drewN' ?_ _ | with_reducible refine Below.alloc ?_ ?_ _ | with_reducible refine Below.setCell ?_ ?_ _ | (simp; done) | (simp; omega) | omega))⟩
    simp [results, Tryd.results20, go_sem, *]
  · simp only [hz, if_false]
    have hz2 : ((M.slots q).kind == 0) = false := by rw [beq_eq_false_iff_ne]; exact hz
    clear hz
    go_enter Tryd.func20, Tryd.ntmps20
    go_wp2_with fail
    refine (Far_any ⟨3, n, cell⟩ o (by simp) _).mono ?_
    rw [HK.out]
    (rintro e w1 ⟨rfl, hb⟩; obtain ⟨hc1, hf1⟩ := bcell hb; have hz1 := hb.size; (try simp at hz1); have HW1 := Lib.hid (show Below w.heap.size w w1 from Below.trans (by repeat' (first | with_reducible exact HW0.out | with_reducible exact Below.refl _ _ | with_reducible refine Below.drew ?_ | with_reducible refine Below.drewN' ?_ _ | with_reducible refine Below.alloc ?_ ?_ _ | with_reducible refine Below.setCell ?_ ?_ _ | (simp; done) | (simp; omega) | omega)) (hb.mono (by first | (simp; done) | (simp; omega) | omega))); clear hb; (try have z10 : w.heap.size < w1.heap.size := by omega); (try have z11 : w.heap.size + 1 < w1.heap.size := by omega); (try have z12 : w.heap.size + 1 + 1 < w1.heap.size := by omega); (try have z13 : w.heap.size + 1 + 1 + 1 < w1.heap.size := by omega); (try have z14 : w.heap.size + 1 + 1 + 1 + 1 < w1.heap.size := by omega); (try have z15 : w.heap.size + 1 + 1 + 1 + 1 + 1 < w1.heap.size := by omega); (try have z16 : w.heap.size + 1 + 1 + 1 + 1 + 1 + 1 < w1.heap.size := by omega); (try have z17 : w.heap.size + 1 + 1 + 1 + 1 + 1 + 1 + 1 < w1.heap.size := by omega))
    (have k1_w_heap_size_0 : w1.cell? ⟨w.heap.size, 0, none⟩ = some (.int .i64 3) := (by rw [hc1 _ _ (by first | (simp; done) | (simp; omega) | omega)]; first | (simp [go_sem]; done) | assumption); have r1_w_heap_size_0 : w1.frozen? ⟨w.heap.size, 0, none⟩ = false := (by rw [hf1 _ _ (by first | (simp; done) | (simp; omega) | omega)]; first | (simp [go_sem]; done) | assumption); have k1_w_heap_size_1 : w1.cell? ⟨w.heap.size, 1, none⟩ = some (.int .i64 n) := (by rw [hc1 _ _ (by first | (simp; done) | (simp; omega) | omega)]; first | (simp [go_sem]; done) | assumption); have r1_w_heap_size_1 : w1.frozen? ⟨w.heap.size, 1, none⟩ = false := (by rw [hf1 _ _ (by first | (simp; done) | (simp; omega) | omega)]; first | (simp [go_sem]; done) | assumption); have k1_w_heap_size_2 : w1.cell? ⟨w.heap.size, 2, none⟩ = some (.int .i64 cell) := (by rw [hc1 _ _ (by first | (simp; done) | (simp; omega) | omega)]; first | (simp [go_sem]; done) | assumption); have r1_w_heap_size_2 : w1.frozen? ⟨w.heap.size, 2, none⟩ = false := (by rw [hf1 _ _ (by first | (simp; done) | (simp; omega) | omega)]; first | (simp [go_sem]; done) | assumption))
    (have k1_w_heap_size_1_0 : w1.cell? ⟨w.heap.size + 1, 0, none⟩ = some (.int .i64 0) := (by rw [hc1 _ _ (by first | (simp; done) | (simp; omega) | omega)]; first | (simp [go_sem]; done) | assumption); have r1_w_heap_size_1_0 : w1.frozen? ⟨w.heap.size + 1, 0, none⟩ = false := (by rw [hf1 _ _ (by first | (simp; done) | (simp; omega) | omega)]; first | (simp [go_sem]; done) | assumption); have k1_w_heap_size_1_1 : w1.cell? ⟨w.heap.size + 1, 1, none⟩ = some (.int .i64 0) := (by rw [hc1 _ _ (by first | (simp; done) | (simp; omega) | omega)]; first | (simp [go_sem]; done) | assumption); have r1_w_heap_size_1_1 : w1.frozen? ⟨w.heap.size + 1, 1, none⟩ = false := (by rw [hf1 _ _ (by first | (simp; done) | (simp; omega) | omega)]; first | (simp [go_sem]; done) | assumption); have k1_w_heap_size_1_2 : w1.cell? ⟨w.heap.size + 1, 2, none⟩ = some (.int .i64 0) := (by rw [hc1 _ _ (by first | (simp; done) | (simp; omega) | omega)]; first | (simp [go_sem]; done) | assumption); have r1_w_heap_size_1_2 : w1.frozen? ⟨w.heap.size + 1, 2, none⟩ = false := (by rw [hf1 _ _ (by first | (simp; done) | (simp; omega) | omega)]; first | (simp [go_sem]; done) | assumption))
    have d0 : w1.cell? ⟨b, 34 + q * 3, none⟩ = some (.int .i64 (M.slots q).kind) := ((HI.out.later HW1.out hlt).cell _ (by omega)).trans (congrArg some ((mimg_slot hq (by omega : 0 < 3) (by omega)).trans (vcell_0 _)))
    have d1 : w1.cell? ⟨b, 34 + q * 3 + 1, none⟩ = some (.int .i64 (M.slots q).n) := ((HI.out.later HW1.out hlt).cell _ (by omega)).trans (congrArg some ((mimg_slot hq (by omega : 1 < 3) (by omega)).trans (vcell_1 _)))
    have d2 : w1.cell? ⟨b, 34 + q * 3 + 2, none⟩ = some (.int .i64 (M.slots q).cell) := ((HI.out.later HW1.out hlt).cell _ (by omega)).trans (congrArg some ((mimg_slot hq (by omega : 2 < 3) (by omega)).trans (vcell_2 _)))
    clear hc1 hf1
    go_wp2_with fail
    refine bodyPost_ret ?_ rfl ⟨rfl, (by repeat' (first | with_reducible exact HW1.out | with_reducible exact Below.refl _ _ | with_reducible refine Below.drew ?_ | with_reducible refine Below.drewN' ?_ _ | with_reducible refine Below.alloc ?_ ?_ _ | with_reducible refine Below.setCell ?_ ?_ _ | (simp; done) | (simp; omega) | omega))⟩
    simp [results, Tryd.results20, go_sem, *]
end Go.Proofs.YtfpoicdfkjbknaaDoor.W
