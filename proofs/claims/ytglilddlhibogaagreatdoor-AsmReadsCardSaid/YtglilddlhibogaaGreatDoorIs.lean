/- The law's own is: an error of the program is the reference's fault. Conditions: the variable errors.errorType holds the type error's handle. -/
import Derived.Test.YtglilddlhibogaaGreatDoorWalkCheck
namespace Go.Proofs.YtglilddlhibogaaGreatDoor.W
open Go.RowKit Go.Proofs.YtglilddlhibogaaGreatDoor.P
set_option linter.unusedSimpArgs false
set_option linter.unusedVariables false

theorem ErrIs.later {w w' : World} {v : Value} {n p : Int} (h : ErrIs w v n p) (hb : Below w.heap.size w w') : ErrIs w' v n p := by
 rcases h with h | h | ⟨hne, b, hv, h0, h1⟩
 ·exact .inl h
 ·exact .inr (.inl h)
 ·have l := block_lt_of_cell h0
  exact .inr (.inr ⟨hne, b, hv, (hb.cell l).trans h0, (hb.cell (p := ⟨b, 1, none⟩) l).trans h1⟩)

set_option maxRecDepth 100000 in
set_option maxHeartbeats 4000000 in
theorem is_same (v : Value) (n p : Int) (w : World) (h : ErrIs w v n p) (hg : w.cell? ⟨5, 0, none⟩ = some (.iface 317 (.agg #[.pointer (some ⟨14, 26, none⟩)]))) :
  Calls Tryz.prog 16 #[v, .agg #[.int .i64 n, .int .i64 p]] w fun e w' => e = .returned (.bool true) ∧ Below w.heap.size w w' := by
 have HW0 := Lib.hid (Below.refl w.heap.size w)
 have hlt := block_lt_of_cell hg
 rcases h with ⟨rfl, rfl, rfl⟩ | ⟨-, rfl, rfl⟩ | ⟨-, b, rfl, h0, h1⟩
 ·go_enter Tryz.func16, Tryz.ntmps16
  go_wp2_with fail
  refine (Place_nil _).mono ?_
  (rintro e w1 ⟨rfl, hb⟩; obtain ⟨hc1, hf1⟩ := bcell hb; have hz1 := hb.size; (try simp at hz1); have HW1 := Lib.hid (show Below w.heap.size w w1 from Below.trans (by repeat' (first | with_reducible (first | exact HW0.out | apply bR | apply bD | apply bN | apply bA | apply bS) | (simp; done) | (simp; omega) | omega)) (hb.mono (by first | omega | simp <;> omega))); clear hb; (try have z10 : w.heap.size < w1.heap.size := by omega); (try have z11 : w.heap.size + 1 < w1.heap.size := by omega))
  have b0 : w1.cell? ⟨w.heap.size, 0, none⟩ = some (.int .i64 0) := by rw [hc1 _ _ (by simp)]; simp [go_sem]
  have b1 : w1.cell? ⟨w.heap.size, 1, none⟩ = some (.int .i64 (-1)) := by rw [hc1 _ _ (by simp)]; simp [go_sem]
  clear hc1 hf1
  go_wp2_with fail
  go_ret
  exact ⟨rfl, (by repeat' (first | with_reducible (first | exact HW1.out | apply bR | apply bD | apply bN | apply bA | apply bS) | (simp; done) | (simp; omega) | omega))⟩
 ·go_enter Tryz.func16, Tryz.ntmps16
  go_wp2_with fail
  refine (Place_errno n _ (by rw [World.cell?_alloc_lt _ _ ⟨5, 0, none⟩ hlt]; exact hg)).mono ?_
  (rintro e w1 ⟨rfl, hb⟩; obtain ⟨hc1, hf1⟩ := bcell hb; have hz1 := hb.size; (try simp at hz1); have HW1 := Lib.hid (show Below w.heap.size w w1 from Below.trans (by repeat' (first | with_reducible (first | exact HW0.out | apply bR | apply bD | apply bN | apply bA | apply bS) | (simp; done) | (simp; omega) | omega)) (hb.mono (by first | omega | simp <;> omega))); clear hb; (try have z10 : w.heap.size < w1.heap.size := by omega); (try have z11 : w.heap.size + 1 < w1.heap.size := by omega))
  have b0 : w1.cell? ⟨w.heap.size, 0, none⟩ = some (.int .i64 n) := by rw [hc1 _ _ (by simp)]; simp [go_sem]
  have b1 : w1.cell? ⟨w.heap.size, 1, none⟩ = some (.int .i64 (-1)) := by rw [hc1 _ _ (by simp)]; simp [go_sem]
  clear hc1 hf1
  go_wp2_with fail
  go_ret
  exact ⟨ret_bool (by simp), (by repeat' (first | with_reducible (first | exact HW1.out | apply bR | apply bD | apply bN | apply bA | apply bS) | (simp; done) | (simp; omega) | omega))⟩
 ·have l := block_lt_of_cell h0
  go_enter Tryz.func16, Tryz.ntmps16
  go_wp2_with fail
  refine (Place_at b n p _ (by rw [World.cell?_alloc_lt _ _ ⟨5, 0, none⟩ hlt]; exact hg) (by rw [World.cell?_alloc_lt _ _ ⟨b, 0, none⟩ l]; exact h0) (by rw [World.cell?_alloc_lt _ _ ⟨b, 1, none⟩ l]; exact h1)).mono ?_
  (rintro e w1 ⟨rfl, hb⟩; obtain ⟨hc1, hf1⟩ := bcell hb; have hz1 := hb.size; (try simp at hz1); have HW1 := Lib.hid (show Below w.heap.size w w1 from Below.trans (by repeat' (first | with_reducible (first | exact HW0.out | apply bR | apply bD | apply bN | apply bA | apply bS) | (simp; done) | (simp; omega) | omega)) (hb.mono (by first | omega | simp <;> omega))); clear hb; (try have z10 : w.heap.size < w1.heap.size := by omega); (try have z11 : w.heap.size + 1 < w1.heap.size := by omega))
  have b0 : w1.cell? ⟨w.heap.size, 0, none⟩ = some (.int .i64 n) := by rw [hc1 _ _ (by simp)]; simp [go_sem]
  have b1 : w1.cell? ⟨w.heap.size, 1, none⟩ = some (.int .i64 p) := by rw [hc1 _ _ (by simp)]; simp [go_sem]
  clear hc1 hf1
  go_wp2_with fail
  go_ret
  exact ⟨ret_bool (by simp), (by repeat' (first | with_reducible (first | exact HW1.out | apply bR | apply bD | apply bN | apply bA | apply bS) | (simp; done) | (simp; omega) | omega))⟩

end Go.Proofs.YtglilddlhibogaaGreatDoor.W
