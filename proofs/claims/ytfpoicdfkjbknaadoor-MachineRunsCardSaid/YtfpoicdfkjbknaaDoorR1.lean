/- The walk of the reference's size and word: where a place is. Conditions: the numbers are int64's, the kind is one of five. -/
import Derived.Test.YtfpoicdfkjbknaaDoorWalkRef
import Derived.Test.YtfpoicdfkjbknaaDoorWalkBound
import Derived.Test.YtfpoicdfkjbknaaDoorBoxImg
import Derived.Test.YtfpoicdfkjbknaaDoorQuietTail
import Derived.Deep.RegionHeld3
import Derived.Deep.DrawnRows
import Derived.Deep.DeepCutAuto
import Derived.Deep.Light
import Derived.Outline
namespace Go.Proofs.YtfpoicdfkjbknaaDoor.W
open Go.RowKit Go.Proofs.YtfpoicdfkjbknaaDoor.P
set_option linter.unusedSimpArgs false
set_option linter.unusedVariables false

set_option maxHeartbeats 1000000 in
theorem RefSize_any (k : Int) (hk : k = 2 ∨ k = 3 ∨ k = 4) (w : World) :
    Calls Tryd.prog 69 #[.int .u8 (kl k)] w fun e w' => e = .returned (.agg #[.int .i64 (low k), .int .i64 (high k)]) ∧ Below w.heap.size w w' := by
  have HW0 := Lib.hid (Below.refl w.heap.size w)
  rcases hk with rfl | rfl | rfl
  all_goals
    simp only [kl, low, high, show ¬ (2 : Int) = 1 by decide, show ¬ (3 : Int) = 1 by decide, show ¬ (4 : Int) = 1 by decide, show ¬ (3 : Int) = 2 by decide, show ¬ (4 : Int) = 2 by decide, show ¬ (4 : Int) = 3 by decide, show ¬ (2 : Int) = 3 by decide, show ¬ (2 : Int) = 4 by decide, if_true, if_false]
    go_enter Tryd.func69, Tryd.ntmps69
    go_wp2_with fail
    refine bodyPost_ret ?_ rfl ⟨rfl, (by repeat' (first | with_reducible exact HW0.out | with_reducible exact Below.refl _ _ | with_reducible refine Below.drew ?_ | with_reducible refine Below.drewN' ?_ _ | with_reducible refine Below.alloc ?_ ?_ _ | with_reducible refine Below.setCell ?_ ?_ _ | (simp; done) | (simp; omega) | omega))⟩
    simp [results, Tryd.results69, go_sem]

set_option maxRecDepth 100000 in
set_option maxHeartbeats 1000000 in
theorem RefWord_low (k n c o : Int) (hk : k = 0 ∨ k = 1) (w : World) :
    Calls Tryd.prog 40 #[.agg #[.int .u8 (kl k), .int .i64 n, .int .i64 c], .int .i64 o] w fun e w' => e = .returned (.tuple #[.int .i64 (P.far ⟨k, n, c⟩ o).1, .int .i64 (P.far ⟨k, n, c⟩ o).2]) ∧ Below w.heap.size w w' := by
  have HW0 := Lib.hid (Below.refl w.heap.size w)
  unfold P.far kl
  rcases hk with rfl | rfl
  all_goals
    simp only [show ¬ (0 : Int) = 1 by decide, show ¬ (0 : Int) = 2 by decide, show ¬ (0 : Int) = 3 by decide, show ¬ (0 : Int) = 4 by decide, show ¬ (1 : Int) = 0 by decide, if_true, if_false]
    go_enter Tryd.func40, Tryd.ntmps40
    go_wp2_with fail
    go_ret2
    exact ⟨rfl, (by repeat' (first | with_reducible exact HW0.out | with_reducible exact Below.refl _ _ | with_reducible refine Below.drew ?_ | with_reducible refine Below.drewN' ?_ _ | with_reducible refine Below.alloc ?_ ?_ _ | with_reducible refine Below.setCell ?_ ?_ _ | (simp; done) | (simp; omega) | omega))⟩

attribute [local go_sem ↓] Go.wp_at_zero Go.wp_at_succ
set_option maxRecDepth 100000 in
set_option maxHeartbeats 2000000 in
theorem RefWord_high (k n c o l : Int) (hk : k = 2 ∨ k = 3 ∨ k = 4) (hn : In64 n) (ho : In64 o) (hl : wrap64 (n + o) = l) (w : World) :
    Calls Tryd.prog 40 #[.agg #[.int .u8 (kl k), .int .i64 n, .int .i64 c], .int .i64 o] w fun e w' => e = .returned (if l < low k ∨ high k < l then .tuple #[.int .i64 0, .int .i64 2] else .tuple #[.int .i64 l, .int .i64 0]) ∧ Below w.heap.size w w' := by
  have HW0 := Lib.hid (Below.refl w.heap.size w)
  have cS : ∀ w', Calls Tryd.prog 69 #[.int .u8 (kl k)] w' fun e w'' => e = .returned (.agg #[.int .i64 (low k), .int .i64 (high k)]) ∧ Below w'.heap.size w' w'' := fun w' => RefSize_any k hk w'
  have cD : ∀ w', Calls Tryd.prog 68 #[.int .i64 2, .int .i64 n, .int .i64 o] w' fun e w'' => e = .returned (.int .i64 l) ∧ w' = w'' := fun w' => by
    have := RefDoes_any 2 n o hn ho w'
    rw [show P.does 2 n o = l from hl] at this
    exact this
  have CS := Lib.hid cS
  have CD := Lib.hid cD
  have q0 : (kl k == 0) = false := by rcases hk with rfl | rfl | rfl <;> rfl
  have q1 : (kl k == 110) = false := by rcases hk with rfl | rfl | rfl <;> rfl
  clear cS cD hl hn ho hk
  generalize low k = lo at *
  generalize high k = hi at *
  generalize kl k = kk at *
  go_enter Tryd.func40, Tryd.ntmps40
  go_wp2_with fail
  generalize hW : World.alloc w _ = wd
  have HW1 : Hid (Below w.heap.size w wd) := Lib.hid (hW ▸ (Below.refl w.heap.size w).alloc (Nat.le_refl _) _)
  have z1 : w.heap.size < wd.heap.size := by rw [← hW]; simp
  have e0 : wd.cell? ⟨w.heap.size, 0, none⟩ = some (.int .u8 kk) := by rw [← hW]; simp [go_sem]
  have e1 : wd.cell? ⟨w.heap.size, 1, none⟩ = some (.int .i64 n) := by rw [← hW]; simp [go_sem]
  clear hW
  go_cut [6, 7] (fun u6 u7 wr => ∃ p : Nat, u6 = .int .i64 l ∧ u7 = .pointer (some ⟨p, 0, none⟩) ∧ wr.cell? ⟨p, 0, none⟩ = some (.int .i64 lo) ∧ wr.cell? ⟨p, 1, none⟩ = some (.int .i64 hi) ∧ Below w.heap.size w wr)
  case first =>
    have m1 : ¬ w.heap.size = wd.heap.size := by omega
    have m2 : ¬ wd.heap.size = w.heap.size := by omega
    go_region_held3 (fun w' => w'.cell? ⟨w.heap.size, 0, none⟩ = some (.int .u8 kk) ∧ w'.cell? ⟨w.heap.size, 1, none⟩ = some (.int .i64 n))
      (first | go_keep | (go_split_ands; exact ⟨by first | assumption | (rw [hb.cell (by first | (simp; done) | (simp; omega) | omega)]; first | assumption | go_keep) | (simp [go_sem, *]; done), by first | assumption | (rw [hb.cell (by first | (simp; done) | (simp; omega) | omega)]; first | assumption | go_keep) | (simp [go_sem, *]; done)⟩))
      (first | (go_at_call 68; refine (CD.out _).mono ?_; rintro e w' ⟨rfl, rfl⟩) | (go_at_call 69; refine (CS.out _).mono ?_; rintro e w1 ⟨rfl, hb⟩; obtain ⟨hc1, hf1⟩ := bcell hb; have z2 := hb.size; (try simp at z2); have y0 : w1.cell? ⟨w.heap.size, 0, none⟩ = some (.int .u8 kk) := (hb.cell (p := ⟨w.heap.size, 0, none⟩) (by first | (simp; done) | (simp; omega) | omega)).trans (by first | exact e0 | (simp [go_sem, e0, z1]; done)); have y1 : w1.cell? ⟨w.heap.size, 1, none⟩ = some (.int .i64 n) := (hb.cell (p := ⟨w.heap.size, 1, none⟩) (by first | (simp; done) | (simp; omega) | omega)).trans (by first | exact e1 | (simp [go_sem, e1, z1]; done)); (try have p0 : w1.cell? ⟨wd.heap.size, 0, none⟩ = some (.int .i64 0) := (by rw [hc1 _ _ (by first | (simp; done) | (simp; omega) | omega)]; simp [go_sem])); (try have p1 : w1.cell? ⟨wd.heap.size, 1, none⟩ = some (.int .i64 0) := (by rw [hc1 _ _ (by first | (simp; done) | (simp; omega) | omega)]; simp [go_sem])); (try have r0 : w1.frozen? ⟨wd.heap.size, 0, none⟩ = false := (by rw [hf1 _ _ (by first | (simp; done) | (simp; omega) | omega)]; simp [go_sem])); (try have r1 : w1.frozen? ⟨wd.heap.size, 1, none⟩ = false := (by rw [hf1 _ _ (by first | (simp; done) | (simp; omega) | omega)]; simp [go_sem])); (try have z3 : wd.heap.size < w1.heap.size := (by omega)); have z4 : w.heap.size < w1.heap.size := (by omega); have l1 : ¬ w.heap.size = w1.heap.size := (by omega); have l2 : ¬ w1.heap.size = w.heap.size := (by omega); clear hc1 hf1))
    all_goals
      go_wp2_with fail
      go_meet
      (first
        | (refine ⟨w1.heap.size, ?_, ?_, ?_, ?_, ?_⟩; with_reducible rfl; with_reducible rfl)
        | (refine ⟨wd.heap.size, ?_, ?_, ?_, ?_, ?_⟩; with_reducible rfl; with_reducible rfl))
    all_goals (first | (with_reducible refine Below.mono ?_ (Nat.le_refl _); go_light; repeat' (first | with_reducible exact HW1.out | with_reducible refine Below.drew ?_ | with_reducible refine Below.alloc ?_ ?_ _ | with_reducible refine Below.setCell ?_ ?_ _ | with_reducible refine Below.trans ?_ (hb.mono ?_) | (simp; done) | (simp; omega) | omega)) | (go_light; simp [go_sem, *]; done))
  case rest =>
    obtain ⟨p, rfl, rfl, b0, b1, HBc⟩ := hcut
    have HWc := Lib.hid HBc
    clear HBc
    by_cases h1 : l < lo
    all_goals
      go_wp2_with fail
    all_goals
      go_ret2
      refine ⟨?_, HWc.out⟩
      first | rfl | (rw [if_pos (by omega)]; rfl) | (rw [if_neg (by omega)]; rfl)

theorem RefWord_any (v : Val) (o : Int) (hk : v.kind = 0 ∨ v.kind = 1 ∨ v.kind = 2 ∨ v.kind = 3 ∨ v.kind = 4) (hn : In64 v.n) (ho : In64 o) (w : World) :
    Calls Tryd.prog 40 #[.agg #[.int .u8 (kl v.kind), .int .i64 v.n, .int .i64 v.cell], .int .i64 o] w fun e w' => e = .returned (.tuple #[.int .i64 (P.far v o).1, .int .i64 (P.far v o).2]) ∧ Below w.heap.size w w' := by
  obtain ⟨k, n, c⟩ := v
  simp only at hk hn ⊢
  by_cases h : k = 0 ∨ k = 1
  · exact RefWord_low k n c o h w
  · have := RefWord_high k n c o _ (by omega) hn ho rfl w
    have e : (if wrap64 (n + o) < low k ∨ high k < wrap64 (n + o) then (.tuple #[.int .i64 0, .int .i64 2] : Value) else .tuple #[.int .i64 (wrap64 (n + o)), .int .i64 0]) = .tuple #[.int .i64 (P.far ⟨k, n, c⟩ o).1, .int .i64 (P.far ⟨k, n, c⟩ o).2] := by
      unfold P.far
      simp only
      rw [if_neg (by omega : ¬ k = 0), if_neg (by omega : ¬ k = 1)]
      split <;> rfl
    rw [e] at this
    exact this
end Go.Proofs.YtfpoicdfkjbknaaDoor.W
