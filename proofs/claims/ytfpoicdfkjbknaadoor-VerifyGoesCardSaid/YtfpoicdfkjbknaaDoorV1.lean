/- The walks of package verify: number, at, words, far. Conditions: the bounds have their ends in order. -/
import Derived.Test.YtfpoicdfkjbknaaDoorWalkBound5
import Derived.Test.YtfpoicdfkjbknaaDoorPureVerOk
import Derived.Test.YtfpoicdfkjbknaaDoorVerImg
import Derived.Test.YtfpoicdfkjbknaaDoorCalm
import Derived.Outline
namespace Go.Proofs.YtfpoicdfkjbknaaDoor.W
open Go.RowKit Go.Proofs.YtfpoicdfkjbknaaDoor.P
set_option linter.unusedSimpArgs false
set_option linter.unusedVariables false

set_option maxHeartbeats 400000 in
theorem VNumber_any (lo hi : Int) (w : World) :
  Calls Tryd.prog 67 #[.agg #[.int .i64 lo, .int .i64 hi]] w fun e w' => e = .returned (.agg #[.int .i64 1, .int .i64 lo, .int .i64 hi]) ∧ Below w.heap.size w w' := by
 have HW0 := Lib.hid (Below.refl w.heap.size w)
 go_enter Tryd.func67, Tryd.ntmps67
 go_wp2_with fail
 first
 | (go_ret; exact ⟨rfl, (by repeat' (first | with_reducible (first | exact HW0.out | apply bR | apply bD | apply bN | apply bA | apply bS) | (simp; done) | (simp; omega) | omega))⟩)
 | (refine bodyPost_ret (v := .agg #[.int .i64 1, .int .i64 lo, .int .i64 hi]) ?_ rfl ⟨rfl, (by repeat' (first | with_reducible (first | exact HW0.out | apply bR | apply bD | apply bN | apply bA | apply bS) | (simp; done) | (simp; omega) | omega))⟩; simp [results, Tryd.results67, go_sem])

set_option maxHeartbeats 400000 in
theorem At_any (er p : Int) (w : World) :
  Calls Tryd.prog 59 #[.int .i64 er, .int .i64 p] w fun e w' => e = .returned (.iface 84 (.pointer (some ⟨w.heap.size, 0, none⟩))) ∧ w'.cell? ⟨w.heap.size, 0, none⟩ = some (.int .i64 er) ∧ w'.cell? ⟨w.heap.size, 1, none⟩ = some (.int .i64 p) ∧ w.heap.size < w'.heap.size ∧ Below w.heap.size w w' := by
 have HW0 := Lib.hid (Below.refl w.heap.size w)
 go_enter Tryd.func59, Tryd.ntmps59
 go_wp2_with fail
 go_ret
 refine ⟨rfl, ?_, ?_, ?_, (by repeat' (first | with_reducible (first | exact HW0.out | apply bR | apply bD | apply bN | apply bA | apply bS) | (simp; done) | (simp; omega) | omega))⟩ <;> simp [go_sem]

set_option maxHeartbeats 400000 in
theorem Words_any (k : Int) (hk : k = 2 ∨ k = 3 ∨ k = 4) (w : World) :
  Calls Tryd.prog 106 #[.int .i64 k] w fun e w' => e = .returned (.tuple #[.int .i64 (low k), .int .i64 (high k)]) ∧ w = w' := by
 rcases hk with rfl | rfl | rfl
 all_goals
  go_enter Tryd.func106, Tryd.ntmps106
  go_wp2_with fail
  go_ret2
  exact ⟨rfl, rfl⟩

set_option maxRecDepth 100000 in
set_option maxHeartbeats 1000000 in
theorem VFar_no (k lo hi : Int) (o : Int) (hk : k = 0 ∨ k = 1 ∨ k = 5) (w : World) :
  Calls Tryd.prog 83 #[.agg #[.int .i64 k, .int .i64 lo, .int .i64 hi], .int .i64 o] w fun e w' => e = .returned (.tuple #[.agg #[.int .i64 0, .int .i64 0], .int .i64 (if k = 0 then 8 else 1)]) ∧ Below w.heap.size w w' := by
 have HW0 := Lib.hid (Below.refl w.heap.size w)
 rcases hk with rfl | rfl | rfl
 all_goals
  go_enter Tryd.func83, Tryd.ntmps83
  go_wp2_with fail
  refine bodyPost_ret (v := _) ?_ rfl ⟨rfl, (by repeat' (first | with_reducible (first | exact HW0.out | apply bR | apply bD | apply bN | apply bA | apply bS) | (simp; done) | (simp; omega) | omega))⟩
  simp [results, Tryd.results83, go_sem]

set_option maxRecDepth 100000 in
set_option maxHeartbeats 4000000 in
theorem VFar_place (k lo hi : Int) (o : Int) (hk : k = 2 ∨ k = 3 ∨ k = 4) (hb : B.Ok ⟨lo, hi⟩) (ho : In64 o) (w : World) :
  Calls Tryd.prog 83 #[.agg #[.int .i64 k, .int .i64 lo, .int .i64 hi], .int .i64 o] w fun e w' => e = .returned (.tuple #[.agg #[.int .i64 (vfar ⟨k, ⟨lo, hi⟩⟩ o).1.lo, .int .i64 (vfar ⟨k, ⟨lo, hi⟩⟩ o).1.hi], .int .i64 (vfar ⟨k, ⟨lo, hi⟩⟩ o).2]) ∧ Below w.heap.size w w' := by
 have HW0 := Lib.hid (Below.refl w.heap.size w)
 have c1 : ∀ wd dr os, Calls Tryd.prog 35 #[.int .i64 o] (Go.Sort.grow (redrawn wd dr) os) fun e w' => e = .returned (.agg #[.int .i64 o, .int .i64 o]) ∧ BelowAt (Go.Sort.grow (redrawn wd dr) os) w' := fun wd dr os => One_any o _
 have c2 : ∀ wd dr os, Calls Tryd.prog 85 #[.int .i64 2, .agg #[.int .i64 lo, .int .i64 hi], .agg #[.int .i64 o, .int .i64 o]] (Go.Sort.grow (redrawn wd dr) os) fun e w' => e = .returned (.agg #[.int .i64 (bdoes 2 ⟨lo, hi⟩ (bone o)).lo, .int .i64 (bdoes 2 ⟨lo, hi⟩ (bone o)).hi]) ∧ BelowAt (Go.Sort.grow (redrawn wd dr) os) w' := fun wd dr os => BDoes_any 2 lo hi o o hb.1 hb.2.1 ho ho hb.2.2 (Int.le_refl _) _
 have hv : vfar ⟨k, ⟨lo, hi⟩⟩ o = if (bdoes 2 ⟨lo, hi⟩ (bone o)).lo < low k ∨ high k < (bdoes 2 ⟨lo, hi⟩ (bone o)).hi then (bnil, 2) else (bdoes 2 ⟨lo, hi⟩ (bone o), 0) := by
  unfold vfar; rw [if_neg (by simp only; omega), if_neg (by simp only; omega)]
 rw [hv]
 clear hv
 generalize bdoes 2 ⟨lo, hi⟩ (bone o) = d at *
 obtain ⟨dl, dh⟩ := d
 simp only at c2 ⊢
 have CW := Lib.hid (fun w => Words_any k hk w)
 have C1 := Lib.hid c1
 have C2 := Lib.hid c2
 have HO := Lib.hid ho
 have HBB := Lib.hid hb
 have t0 : (k == 0) = false := by rw [beq_eq_false_iff_ne]; omega
 have t1 : (k == 1) = false := by rw [beq_eq_false_iff_ne]; omega
 have t5 : (k == 5) = false := by rw [beq_eq_false_iff_ne]; omega
 generalize low k = L at *
 generalize high k = H at *
 clear c1 c2 ho hb hk
 go_enter Tryd.func83, Tryd.ntmps83
 go_wp2_with fail
 generalize hW : World.alloc (World.alloc w _) _ = wd
 have f0 : wd.cell? ⟨w.heap.size, 0, none⟩ = some (.int .i64 k) := by rw [← hW]; simp [go_sem]
 have f1 : wd.cell? ⟨w.heap.size, 1, none⟩ = some (.int .i64 lo) := by rw [← hW]; simp [go_sem]
 have f2 : wd.cell? ⟨w.heap.size, 2, none⟩ = some (.int .i64 hi) := by rw [← hW]; simp [go_sem]
 have g0 : wd.cell? ⟨w.heap.size + 1, 0, none⟩ = some (.int .i64 0) := by rw [← hW]; simp [go_sem]
 have g1 : wd.cell? ⟨w.heap.size + 1, 1, none⟩ = some (.int .i64 0) := by rw [← hW]; simp [go_sem]
 have g2 : wd.frozen? ⟨w.heap.size + 1, 0, none⟩ = false := by rw [← hW]; simp [go_sem]
 have g3 : wd.frozen? ⟨w.heap.size + 1, 1, none⟩ = false := by rw [← hW]; simp [go_sem]
 have HB1 := Lib.hid (show Below w.heap.size w wd from hW ▸ (by repeat' (first | with_reducible (first | exact HW0.out | apply bR | apply bD | apply bN | apply bA | apply bS) | (simp; done) | (simp; omega) | omega)))
 have zd : w.heap.size + 1 < wd.heap.size := by rw [← hW]; simp
 clear hW
 have k0 := cell_regrown f0; have k1 := cell_regrown f1; have k2 := cell_regrown f2
 refine wp_calm_tail1 6 5 6 52 (.cells #[.int .i64 0, .int .i64 0] 52 (0, 0)) (by kernel_rfl) (by kernel_rfl) (by kernel_rfl) (by kernel_rfl) (by kernel_rfl) (by kernel_rfl) (fun w => by kernel_rfl) ?_
 (repeat (first | refine wpCalm_alloc (by rfl) ?_ | (refine wpCalm_step (by rfl) (fun K hK => ?_); go_simp; first | (refine hK _ ?_; clear hK K) | (apply Exists.intro; refine ⟨fun _ => ?_, hK _ ?_⟩; (first | exact C1.out _ _ _ | exact C2.out _ _ _); clear hK K))))
 refine wpCalm_nil ?_
 intro m wq hbq hm hzm
 have m0 : wq.cell? ⟨m, 0, none⟩ = some (.int .i64 0) := by simp [World.cell?, hzm]
 have m1 : wq.cell? ⟨m, 1, none⟩ = some (.int .i64 0) := by simp [World.cell?, hzm]
 have m2 : wq.frozen? ⟨m, 0, none⟩ = false := by simp [World.frozen?, hzm]
 have m3 : wq.frozen? ⟨m, 1, none⟩ = false := by simp [World.frozen?, hzm]
 have n0 : ¬ m = w.heap.size := by omega
 have n1 : ¬ m = w.heap.size + 1 := by omega
 have n2 : ¬ w.heap.size = m := by omega
 have n3 : ¬ w.heap.size + 1 = m := by omega
 have nm : w.heap.size ≤ m := by omega
 clear k0 k1 k2 hzm
 have zw : w.heap.size < wd.heap.size := by omega
 have a0 : wq.cell? ⟨w.heap.size, 0, none⟩ = some (.int .i64 k) := (hbq.cell (p := ⟨w.heap.size, 0, none⟩) zw).trans f0
 have b0 : wq.cell? ⟨w.heap.size + 1, 0, none⟩ = some (.int .i64 0) := (hbq.cell (p := ⟨w.heap.size + 1, 0, none⟩) zd).trans g0
 have b1 : wq.cell? ⟨w.heap.size + 1, 1, none⟩ = some (.int .i64 0) := (hbq.cell (p := ⟨w.heap.size + 1, 1, none⟩) zd).trans g1
 have b2 : wq.frozen? ⟨w.heap.size + 1, 0, none⟩ = false := (hbq.frozen (p := ⟨w.heap.size + 1, 0, none⟩) zd).trans g2
 have b3 : wq.frozen? ⟨w.heap.size + 1, 1, none⟩ = false := (hbq.frozen (p := ⟨w.heap.size + 1, 1, none⟩) zd).trans g3
 have HW1 := Lib.hid (HB1.out.trans (hbq.mono (by omega)))
 have zq : w.heap.size + 1 < wq.heap.size := by have := hbq.size; omega
 have zq2 : w.heap.size < wq.heap.size := by omega
 clear hbq f0 f1 f2 g0 g1 g2 g3 HB1 zd zw
 by_cases h1 : dl < L
 ·go_wp2_with (with_reducible refine (CW.out _).mono ?_; rintro e w' ⟨rfl, rfl⟩)
  refine bodyPost_ret (v := .tuple #[.agg #[.int .i64 0, .int .i64 0], .int .i64 2]) ?_ rfl ⟨rfl, (by repeat' (first | with_reducible (first | exact HW1.out | apply bR | apply bD | apply bN | apply bA | apply bS) | (simp; done) | (simp; omega) | omega))⟩
  simp [results, Tryd.results83, go_sem, *]
 ·by_cases h2 : H < dh
  ·go_wp2_with (with_reducible refine (CW.out _).mono ?_; rintro e w' ⟨rfl, rfl⟩)
   refine bodyPost_ret (v := .tuple #[.agg #[.int .i64 0, .int .i64 0], .int .i64 2]) ?_ rfl ⟨rfl, (by repeat' (first | with_reducible (first | exact HW1.out | apply bR | apply bD | apply bN | apply bA | apply bS) | (simp; done) | (simp; omega) | omega))⟩
   simp [results, Tryd.results83, go_sem, *]
  ·go_wp2_with (with_reducible refine (CW.out _).mono ?_; rintro e w' ⟨rfl, rfl⟩)
   refine bodyPost_ret (v := .tuple #[.agg #[.int .i64 dl, .int .i64 dh], .int .i64 0]) ?_ rfl ⟨rfl, (by repeat' (first | with_reducible (first | exact HW1.out | apply bR | apply bD | apply bN | apply bA | apply bS) | (simp; done) | (simp; omega) | omega))⟩
   simp [results, Tryd.results83, go_sem, *]

theorem VFar_any (a : Wh) (o : Int) (ha : WOk a) (ho : In64 o) (w : World) :
  Calls Tryd.prog 83 #[.agg #[.int .i64 a.kind, .int .i64 a.b.lo, .int .i64 a.b.hi], .int .i64 o] w fun e w' => e = .returned (.tuple #[.agg #[.int .i64 (vfar a o).1.lo, .int .i64 (vfar a o).1.hi], .int .i64 (vfar a o).2]) ∧ Below w.heap.size w w' := by
 obtain ⟨k, ⟨lo, hi⟩⟩ := a
 obtain ⟨hk, hb⟩ := ha
 simp only at hk hb
 by_cases h : k = 0 ∨ k = 1 ∨ k = 5
 ·refine (VFar_no k lo hi o h w).mono fun e w' he => ?_
  have e1 : vfar ⟨k, ⟨lo, hi⟩⟩ o = (bnil, if k = 0 then 8 else 1) := by
   unfold vfar
   simp only
   by_cases h0 : k = 0
   ·rw [if_pos h0, if_pos h0]
   ·rw [if_neg h0, if_neg h0, if_pos (by omega)]
  rw [e1]; exact he
 ·exact VFar_place k lo hi o (by omega) hb ho w
end Go.Proofs.YtfpoicdfkjbknaaDoor.W
