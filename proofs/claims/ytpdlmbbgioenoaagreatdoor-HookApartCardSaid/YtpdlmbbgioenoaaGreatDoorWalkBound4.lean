/- A part of the proof; each theorem states its conditions. -/
import Derived.Test.YtpdlmbbgioenoaaGreatDoorWalkBound2
import Derived.LoopN
import Derived.Deep.RegionWith
set_option linter.unusedSimpArgs false
set_option linter.unusedVariables false
set_option maxRecDepth 100000
namespace Go.Proofs.YtpdlmbbgioenoaaGreatDoor.W
open Go.RowKit Go.Proofs.YtpdlmbbgioenoaaGreatDoor.P
set_option maxHeartbeats 4000000 in
theorem One_exact (n : Int) (w : World) :
  Calls Tryz.prog 60 #[.int .i64 n] w fun e w' => e = .returned (.agg #[.int .i64 n, .int .i64 n]) ∧ w.alloc (.cells #[.int .i64 n, .int .i64 n] 76) = w' := by
 go_enter Tryz.func60, Tryz.ntmps60
 go_wp2_with fail
 exact bodyPost_ret (v := .agg #[.int .i64 n, .int .i64 n]) (by simp [results, Tryz.results60, go_sem]) rfl ⟨rfl, rfl⟩
theorem prod_in {x y : Int} (h1 : -2147483648 ≤ x) (h2 : x ≤ 2147483648) (h3 : -2147483648 ≤ y) (h4 : y ≤ 2147483648) : -9223372036854775808 ≤ x * y ∧ x * y ≤ 9223372036854775807 := small_prod h1 h2 h3 h4
set_option maxHeartbeats 4000000 in
theorem times_0lo (al ah bl bh : Int)  (h : al < -2147483648) (w : World) :
  Calls Tryz.prog 191 #[.agg #[.int .i64 al, .int .i64 ah], .agg #[.int .i64 bl, .int .i64 bh]] w fun e w' => e = .returned (.agg #[.int .i64 (-9223372036854775808), .int .i64 9223372036854775807]) ∧ Below w.heap.size w w' := by
 have HW0 := Lib.hid (Below.refl w.heap.size w)
 have i0 : ∀ w, (Instr.index 53 (.agg #[.int .i64 al, .int .i64 ah, .int .i64 bl, .int .i64 bh]) (.int .i64 0)).run Tryz.prog w = .ok (.int .i64 al) w := fun _ => by kernel_rfl
 go_enter Tryz.func191, Tryz.ntmps191
 go_wp2_with fail
 refine wp_loop_rounds 5 ?_
 rw [rounds_succ]
 go_wp2_with (first | (rw [rounds_succ]) | (go_at_call 148; refine (All_any _).mono ?_; (rintro e w1 ⟨rfl, hb⟩; obtain ⟨hc1, hf1⟩ := bcell hb; have hz1 := hb.size; (try simp at hz1); have HW1 := Lib.hid (show Below w.heap.size w w1 from Below.trans (by repeat' (first | with_reducible (first | exact HW0.out | apply bR | apply bD | apply bN | apply bA | apply bS) | (simp; done) | (simp; omega) | omega)) (hb.mono (by first | omega | simp <;> omega))); clear hb; (try have z10 : w.heap.size < w1.heap.size := by omega); (try have z11 : w.heap.size + 1 < w1.heap.size := by omega); (try have z12 : w.heap.size + 1 + 1 < w1.heap.size := by omega); (try have z13 : w.heap.size + 1 + 1 + 1 < w1.heap.size := by omega))))
 exact bodyPost_ret (v := .agg #[.int .i64 (-9223372036854775808), .int .i64 9223372036854775807]) (by simp [results, Tryz.results191, go_sem, hc1, z12]) rfl ⟨rfl, (by repeat' (first | with_reducible (first | exact HW1.out | apply bR | apply bD | apply bN | apply bA | apply bS) | (simp; done) | (simp; omega) | omega))⟩
set_option maxHeartbeats 4000000 in
theorem times_0hi (al ah bl bh : Int)  (h : 2147483648 < al) (w : World) :
  Calls Tryz.prog 191 #[.agg #[.int .i64 al, .int .i64 ah], .agg #[.int .i64 bl, .int .i64 bh]] w fun e w' => e = .returned (.agg #[.int .i64 (-9223372036854775808), .int .i64 9223372036854775807]) ∧ Below w.heap.size w w' := by
 have HW0 := Lib.hid (Below.refl w.heap.size w)
 have i0 : ∀ w, (Instr.index 53 (.agg #[.int .i64 al, .int .i64 ah, .int .i64 bl, .int .i64 bh]) (.int .i64 0)).run Tryz.prog w = .ok (.int .i64 al) w := fun _ => by kernel_rfl
 have h' : ¬ al < -2147483648 := by omega
 go_enter Tryz.func191, Tryz.ntmps191
 go_wp2_with fail
 refine wp_loop_rounds 5 ?_
 rw [rounds_succ]
 go_wp2_with (first | (rw [rounds_succ]) | (go_at_call 148; refine (All_any _).mono ?_; (rintro e w1 ⟨rfl, hb⟩; obtain ⟨hc1, hf1⟩ := bcell hb; have hz1 := hb.size; (try simp at hz1); have HW1 := Lib.hid (show Below w.heap.size w w1 from Below.trans (by repeat' (first | with_reducible (first | exact HW0.out | apply bR | apply bD | apply bN | apply bA | apply bS) | (simp; done) | (simp; omega) | omega)) (hb.mono (by first | omega | simp <;> omega))); clear hb; (try have z10 : w.heap.size < w1.heap.size := by omega); (try have z11 : w.heap.size + 1 < w1.heap.size := by omega); (try have z12 : w.heap.size + 1 + 1 < w1.heap.size := by omega); (try have z13 : w.heap.size + 1 + 1 + 1 < w1.heap.size := by omega))))
 exact bodyPost_ret (v := .agg #[.int .i64 (-9223372036854775808), .int .i64 9223372036854775807]) (by simp [results, Tryz.results191, go_sem, hc1, z12]) rfl ⟨rfl, (by repeat' (first | with_reducible (first | exact HW1.out | apply bR | apply bD | apply bN | apply bA | apply bS) | (simp; done) | (simp; omega) | omega))⟩
set_option maxHeartbeats 4000000 in
theorem times_1lo (al ah bl bh : Int) (s0 : -2147483648 ≤ al) (t0 : al ≤ 2147483648) (h : ah < -2147483648) (w : World) :
  Calls Tryz.prog 191 #[.agg #[.int .i64 al, .int .i64 ah], .agg #[.int .i64 bl, .int .i64 bh]] w fun e w' => e = .returned (.agg #[.int .i64 (-9223372036854775808), .int .i64 9223372036854775807]) ∧ Below w.heap.size w w' := by
 have HW0 := Lib.hid (Below.refl w.heap.size w)
 have i0 : ∀ w, (Instr.index 53 (.agg #[.int .i64 al, .int .i64 ah, .int .i64 bl, .int .i64 bh]) (.int .i64 0)).run Tryz.prog w = .ok (.int .i64 al) w := fun _ => by kernel_rfl
 have i1 : ∀ w, (Instr.index 53 (.agg #[.int .i64 al, .int .i64 ah, .int .i64 bl, .int .i64 bh]) (.int .i64 1)).run Tryz.prog w = .ok (.int .i64 ah) w := fun _ => by kernel_rfl
 go_enter Tryz.func191, Tryz.ntmps191
 go_wp2_with fail
 refine wp_loop_rounds 5 ?_
 rw [rounds_succ]
 go_wp2_with (first | (rw [rounds_succ]) | (go_at_call 148; refine (All_any _).mono ?_; (rintro e w1 ⟨rfl, hb⟩; obtain ⟨hc1, hf1⟩ := bcell hb; have hz1 := hb.size; (try simp at hz1); have HW1 := Lib.hid (show Below w.heap.size w w1 from Below.trans (by repeat' (first | with_reducible (first | exact HW0.out | apply bR | apply bD | apply bN | apply bA | apply bS) | (simp; done) | (simp; omega) | omega)) (hb.mono (by first | omega | simp <;> omega))); clear hb; (try have z10 : w.heap.size < w1.heap.size := by omega); (try have z11 : w.heap.size + 1 < w1.heap.size := by omega); (try have z12 : w.heap.size + 1 + 1 < w1.heap.size := by omega); (try have z13 : w.heap.size + 1 + 1 + 1 < w1.heap.size := by omega))))
 exact bodyPost_ret (v := .agg #[.int .i64 (-9223372036854775808), .int .i64 9223372036854775807]) (by simp [results, Tryz.results191, go_sem, hc1, z12]) rfl ⟨rfl, (by repeat' (first | with_reducible (first | exact HW1.out | apply bR | apply bD | apply bN | apply bA | apply bS) | (simp; done) | (simp; omega) | omega))⟩
set_option maxHeartbeats 4000000 in
theorem times_1hi (al ah bl bh : Int) (s0 : -2147483648 ≤ al) (t0 : al ≤ 2147483648) (h : 2147483648 < ah) (w : World) :
  Calls Tryz.prog 191 #[.agg #[.int .i64 al, .int .i64 ah], .agg #[.int .i64 bl, .int .i64 bh]] w fun e w' => e = .returned (.agg #[.int .i64 (-9223372036854775808), .int .i64 9223372036854775807]) ∧ Below w.heap.size w w' := by
 have HW0 := Lib.hid (Below.refl w.heap.size w)
 have i0 : ∀ w, (Instr.index 53 (.agg #[.int .i64 al, .int .i64 ah, .int .i64 bl, .int .i64 bh]) (.int .i64 0)).run Tryz.prog w = .ok (.int .i64 al) w := fun _ => by kernel_rfl
 have i1 : ∀ w, (Instr.index 53 (.agg #[.int .i64 al, .int .i64 ah, .int .i64 bl, .int .i64 bh]) (.int .i64 1)).run Tryz.prog w = .ok (.int .i64 ah) w := fun _ => by kernel_rfl
 have h' : ¬ ah < -2147483648 := by omega
 go_enter Tryz.func191, Tryz.ntmps191
 go_wp2_with fail
 refine wp_loop_rounds 5 ?_
 rw [rounds_succ]
 go_wp2_with (first | (rw [rounds_succ]) | (go_at_call 148; refine (All_any _).mono ?_; (rintro e w1 ⟨rfl, hb⟩; obtain ⟨hc1, hf1⟩ := bcell hb; have hz1 := hb.size; (try simp at hz1); have HW1 := Lib.hid (show Below w.heap.size w w1 from Below.trans (by repeat' (first | with_reducible (first | exact HW0.out | apply bR | apply bD | apply bN | apply bA | apply bS) | (simp; done) | (simp; omega) | omega)) (hb.mono (by first | omega | simp <;> omega))); clear hb; (try have z10 : w.heap.size < w1.heap.size := by omega); (try have z11 : w.heap.size + 1 < w1.heap.size := by omega); (try have z12 : w.heap.size + 1 + 1 < w1.heap.size := by omega); (try have z13 : w.heap.size + 1 + 1 + 1 < w1.heap.size := by omega))))
 exact bodyPost_ret (v := .agg #[.int .i64 (-9223372036854775808), .int .i64 9223372036854775807]) (by simp [results, Tryz.results191, go_sem, hc1, z12]) rfl ⟨rfl, (by repeat' (first | with_reducible (first | exact HW1.out | apply bR | apply bD | apply bN | apply bA | apply bS) | (simp; done) | (simp; omega) | omega))⟩
set_option maxHeartbeats 4000000 in
theorem times_2lo (al ah bl bh : Int) (s0 : -2147483648 ≤ al) (t0 : al ≤ 2147483648) (s1 : -2147483648 ≤ ah) (t1 : ah ≤ 2147483648) (h : bl < -2147483648) (w : World) :
  Calls Tryz.prog 191 #[.agg #[.int .i64 al, .int .i64 ah], .agg #[.int .i64 bl, .int .i64 bh]] w fun e w' => e = .returned (.agg #[.int .i64 (-9223372036854775808), .int .i64 9223372036854775807]) ∧ Below w.heap.size w w' := by
 have HW0 := Lib.hid (Below.refl w.heap.size w)
 have i0 : ∀ w, (Instr.index 53 (.agg #[.int .i64 al, .int .i64 ah, .int .i64 bl, .int .i64 bh]) (.int .i64 0)).run Tryz.prog w = .ok (.int .i64 al) w := fun _ => by kernel_rfl
 have i1 : ∀ w, (Instr.index 53 (.agg #[.int .i64 al, .int .i64 ah, .int .i64 bl, .int .i64 bh]) (.int .i64 1)).run Tryz.prog w = .ok (.int .i64 ah) w := fun _ => by kernel_rfl
 have i2 : ∀ w, (Instr.index 53 (.agg #[.int .i64 al, .int .i64 ah, .int .i64 bl, .int .i64 bh]) (.int .i64 2)).run Tryz.prog w = .ok (.int .i64 bl) w := fun _ => by kernel_rfl
 go_enter Tryz.func191, Tryz.ntmps191
 go_wp2_with fail
 refine wp_loop_rounds 5 ?_
 rw [rounds_succ]
 go_wp2_with (first | (rw [rounds_succ]) | (go_at_call 148; refine (All_any _).mono ?_; (rintro e w1 ⟨rfl, hb⟩; obtain ⟨hc1, hf1⟩ := bcell hb; have hz1 := hb.size; (try simp at hz1); have HW1 := Lib.hid (show Below w.heap.size w w1 from Below.trans (by repeat' (first | with_reducible (first | exact HW0.out | apply bR | apply bD | apply bN | apply bA | apply bS) | (simp; done) | (simp; omega) | omega)) (hb.mono (by first | omega | simp <;> omega))); clear hb; (try have z10 : w.heap.size < w1.heap.size := by omega); (try have z11 : w.heap.size + 1 < w1.heap.size := by omega); (try have z12 : w.heap.size + 1 + 1 < w1.heap.size := by omega); (try have z13 : w.heap.size + 1 + 1 + 1 < w1.heap.size := by omega))))
 exact bodyPost_ret (v := .agg #[.int .i64 (-9223372036854775808), .int .i64 9223372036854775807]) (by simp [results, Tryz.results191, go_sem, hc1, z12]) rfl ⟨rfl, (by repeat' (first | with_reducible (first | exact HW1.out | apply bR | apply bD | apply bN | apply bA | apply bS) | (simp; done) | (simp; omega) | omega))⟩
set_option maxHeartbeats 4000000 in
theorem times_2hi (al ah bl bh : Int) (s0 : -2147483648 ≤ al) (t0 : al ≤ 2147483648) (s1 : -2147483648 ≤ ah) (t1 : ah ≤ 2147483648) (h : 2147483648 < bl) (w : World) :
  Calls Tryz.prog 191 #[.agg #[.int .i64 al, .int .i64 ah], .agg #[.int .i64 bl, .int .i64 bh]] w fun e w' => e = .returned (.agg #[.int .i64 (-9223372036854775808), .int .i64 9223372036854775807]) ∧ Below w.heap.size w w' := by
 have HW0 := Lib.hid (Below.refl w.heap.size w)
 have i0 : ∀ w, (Instr.index 53 (.agg #[.int .i64 al, .int .i64 ah, .int .i64 bl, .int .i64 bh]) (.int .i64 0)).run Tryz.prog w = .ok (.int .i64 al) w := fun _ => by kernel_rfl
 have i1 : ∀ w, (Instr.index 53 (.agg #[.int .i64 al, .int .i64 ah, .int .i64 bl, .int .i64 bh]) (.int .i64 1)).run Tryz.prog w = .ok (.int .i64 ah) w := fun _ => by kernel_rfl
 have i2 : ∀ w, (Instr.index 53 (.agg #[.int .i64 al, .int .i64 ah, .int .i64 bl, .int .i64 bh]) (.int .i64 2)).run Tryz.prog w = .ok (.int .i64 bl) w := fun _ => by kernel_rfl
 have h' : ¬ bl < -2147483648 := by omega
 go_enter Tryz.func191, Tryz.ntmps191
 go_wp2_with fail
 refine wp_loop_rounds 5 ?_
 rw [rounds_succ]
 go_wp2_with (first | (rw [rounds_succ]) | (go_at_call 148; refine (All_any _).mono ?_; (rintro e w1 ⟨rfl, hb⟩; obtain ⟨hc1, hf1⟩ := bcell hb; have hz1 := hb.size; (try simp at hz1); have HW1 := Lib.hid (show Below w.heap.size w w1 from Below.trans (by repeat' (first | with_reducible (first | exact HW0.out | apply bR | apply bD | apply bN | apply bA | apply bS) | (simp; done) | (simp; omega) | omega)) (hb.mono (by first | omega | simp <;> omega))); clear hb; (try have z10 : w.heap.size < w1.heap.size := by omega); (try have z11 : w.heap.size + 1 < w1.heap.size := by omega); (try have z12 : w.heap.size + 1 + 1 < w1.heap.size := by omega); (try have z13 : w.heap.size + 1 + 1 + 1 < w1.heap.size := by omega))))
 exact bodyPost_ret (v := .agg #[.int .i64 (-9223372036854775808), .int .i64 9223372036854775807]) (by simp [results, Tryz.results191, go_sem, hc1, z12]) rfl ⟨rfl, (by repeat' (first | with_reducible (first | exact HW1.out | apply bR | apply bD | apply bN | apply bA | apply bS) | (simp; done) | (simp; omega) | omega))⟩
set_option maxHeartbeats 4000000 in
theorem times_3lo (al ah bl bh : Int) (s0 : -2147483648 ≤ al) (t0 : al ≤ 2147483648) (s1 : -2147483648 ≤ ah) (t1 : ah ≤ 2147483648) (s2 : -2147483648 ≤ bl) (t2 : bl ≤ 2147483648) (h : bh < -2147483648) (w : World) :
  Calls Tryz.prog 191 #[.agg #[.int .i64 al, .int .i64 ah], .agg #[.int .i64 bl, .int .i64 bh]] w fun e w' => e = .returned (.agg #[.int .i64 (-9223372036854775808), .int .i64 9223372036854775807]) ∧ Below w.heap.size w w' := by
 have HW0 := Lib.hid (Below.refl w.heap.size w)
 have i0 : ∀ w, (Instr.index 53 (.agg #[.int .i64 al, .int .i64 ah, .int .i64 bl, .int .i64 bh]) (.int .i64 0)).run Tryz.prog w = .ok (.int .i64 al) w := fun _ => by kernel_rfl
 have i1 : ∀ w, (Instr.index 53 (.agg #[.int .i64 al, .int .i64 ah, .int .i64 bl, .int .i64 bh]) (.int .i64 1)).run Tryz.prog w = .ok (.int .i64 ah) w := fun _ => by kernel_rfl
 have i2 : ∀ w, (Instr.index 53 (.agg #[.int .i64 al, .int .i64 ah, .int .i64 bl, .int .i64 bh]) (.int .i64 2)).run Tryz.prog w = .ok (.int .i64 bl) w := fun _ => by kernel_rfl
 have i3 : ∀ w, (Instr.index 53 (.agg #[.int .i64 al, .int .i64 ah, .int .i64 bl, .int .i64 bh]) (.int .i64 3)).run Tryz.prog w = .ok (.int .i64 bh) w := fun _ => by kernel_rfl
 go_enter Tryz.func191, Tryz.ntmps191
 go_wp2_with fail
 refine wp_loop_rounds 5 ?_
 rw [rounds_succ]
 go_wp2_with (first | (rw [rounds_succ]) | (go_at_call 148; refine (All_any _).mono ?_; (rintro e w1 ⟨rfl, hb⟩; obtain ⟨hc1, hf1⟩ := bcell hb; have hz1 := hb.size; (try simp at hz1); have HW1 := Lib.hid (show Below w.heap.size w w1 from Below.trans (by repeat' (first | with_reducible (first | exact HW0.out | apply bR | apply bD | apply bN | apply bA | apply bS) | (simp; done) | (simp; omega) | omega)) (hb.mono (by first | omega | simp <;> omega))); clear hb; (try have z10 : w.heap.size < w1.heap.size := by omega); (try have z11 : w.heap.size + 1 < w1.heap.size := by omega); (try have z12 : w.heap.size + 1 + 1 < w1.heap.size := by omega); (try have z13 : w.heap.size + 1 + 1 + 1 < w1.heap.size := by omega))))
 exact bodyPost_ret (v := .agg #[.int .i64 (-9223372036854775808), .int .i64 9223372036854775807]) (by simp [results, Tryz.results191, go_sem, hc1, z12]) rfl ⟨rfl, (by repeat' (first | with_reducible (first | exact HW1.out | apply bR | apply bD | apply bN | apply bA | apply bS) | (simp; done) | (simp; omega) | omega))⟩
set_option maxHeartbeats 4000000 in
theorem times_3hi (al ah bl bh : Int) (s0 : -2147483648 ≤ al) (t0 : al ≤ 2147483648) (s1 : -2147483648 ≤ ah) (t1 : ah ≤ 2147483648) (s2 : -2147483648 ≤ bl) (t2 : bl ≤ 2147483648) (h : 2147483648 < bh) (w : World) :
  Calls Tryz.prog 191 #[.agg #[.int .i64 al, .int .i64 ah], .agg #[.int .i64 bl, .int .i64 bh]] w fun e w' => e = .returned (.agg #[.int .i64 (-9223372036854775808), .int .i64 9223372036854775807]) ∧ Below w.heap.size w w' := by
 have HW0 := Lib.hid (Below.refl w.heap.size w)
 have i0 : ∀ w, (Instr.index 53 (.agg #[.int .i64 al, .int .i64 ah, .int .i64 bl, .int .i64 bh]) (.int .i64 0)).run Tryz.prog w = .ok (.int .i64 al) w := fun _ => by kernel_rfl
 have i1 : ∀ w, (Instr.index 53 (.agg #[.int .i64 al, .int .i64 ah, .int .i64 bl, .int .i64 bh]) (.int .i64 1)).run Tryz.prog w = .ok (.int .i64 ah) w := fun _ => by kernel_rfl
 have i2 : ∀ w, (Instr.index 53 (.agg #[.int .i64 al, .int .i64 ah, .int .i64 bl, .int .i64 bh]) (.int .i64 2)).run Tryz.prog w = .ok (.int .i64 bl) w := fun _ => by kernel_rfl
 have i3 : ∀ w, (Instr.index 53 (.agg #[.int .i64 al, .int .i64 ah, .int .i64 bl, .int .i64 bh]) (.int .i64 3)).run Tryz.prog w = .ok (.int .i64 bh) w := fun _ => by kernel_rfl
 have h' : ¬ bh < -2147483648 := by omega
 go_enter Tryz.func191, Tryz.ntmps191
 go_wp2_with fail
 refine wp_loop_rounds 5 ?_
 rw [rounds_succ]
 go_wp2_with (first | (rw [rounds_succ]) | (go_at_call 148; refine (All_any _).mono ?_; (rintro e w1 ⟨rfl, hb⟩; obtain ⟨hc1, hf1⟩ := bcell hb; have hz1 := hb.size; (try simp at hz1); have HW1 := Lib.hid (show Below w.heap.size w w1 from Below.trans (by repeat' (first | with_reducible (first | exact HW0.out | apply bR | apply bD | apply bN | apply bA | apply bS) | (simp; done) | (simp; omega) | omega)) (hb.mono (by first | omega | simp <;> omega))); clear hb; (try have z10 : w.heap.size < w1.heap.size := by omega); (try have z11 : w.heap.size + 1 < w1.heap.size := by omega); (try have z12 : w.heap.size + 1 + 1 < w1.heap.size := by omega); (try have z13 : w.heap.size + 1 + 1 + 1 < w1.heap.size := by omega))))
 exact bodyPost_ret (v := .agg #[.int .i64 (-9223372036854775808), .int .i64 9223372036854775807]) (by simp [results, Tryz.results191, go_sem, hc1, z12]) rfl ⟨rfl, (by repeat' (first | with_reducible (first | exact HW1.out | apply bR | apply bD | apply bN | apply bA | apply bS) | (simp; done) | (simp; omega) | omega))⟩
set_option maxHeartbeats 4000000 in
theorem times_all (al ah bl bh : Int) (s0 : -2147483648 ≤ al) (t0 : al ≤ 2147483648) (s1 : -2147483648 ≤ ah) (t1 : ah ≤ 2147483648) (s2 : -2147483648 ≤ bl) (t2 : bl ≤ 2147483648) (s3 : -2147483648 ≤ bh) (t3 : bh ≤ 2147483648) (w : World) :
  Calls Tryz.prog 191 #[.agg #[.int .i64 al, .int .i64 ah], .agg #[.int .i64 bl, .int .i64 bh]] w fun e w' => e = .returned (.agg #[.int .i64 (min (al * bl) (min (al * bh) (min (ah * bl) (ah * bh)))), .int .i64 (max (al * bl) (max (al * bh) (max (ah * bl) (ah * bh))))]) ∧ Below w.heap.size w w' := by
 have HW0 := Lib.hid (Below.refl w.heap.size w)
 have p0 := prod_in s0 t0 s2 t2
 have p1 := prod_in s0 t0 s3 t3
 have p2 := prod_in s1 t1 s2 t2
 have p3 := prod_in s1 t1 s3 t3
 have i0 : ∀ w, (Instr.index 53 (.agg #[.int .i64 al, .int .i64 ah, .int .i64 bl, .int .i64 bh]) (.int .i64 0)).run Tryz.prog w = .ok (.int .i64 al) w := fun _ => by kernel_rfl
 have i1 : ∀ w, (Instr.index 53 (.agg #[.int .i64 al, .int .i64 ah, .int .i64 bl, .int .i64 bh]) (.int .i64 1)).run Tryz.prog w = .ok (.int .i64 ah) w := fun _ => by kernel_rfl
 have i2 : ∀ w, (Instr.index 53 (.agg #[.int .i64 al, .int .i64 ah, .int .i64 bl, .int .i64 bh]) (.int .i64 2)).run Tryz.prog w = .ok (.int .i64 bl) w := fun _ => by kernel_rfl
 have i3 : ∀ w, (Instr.index 53 (.agg #[.int .i64 al, .int .i64 ah, .int .i64 bl, .int .i64 bh]) (.int .i64 3)).run Tryz.prog w = .ok (.int .i64 bh) w := fun _ => by kernel_rfl
 have j0 : ∀ w, (Instr.index 370 (.agg #[.int .i64 (al * bh), .int .i64 (ah * bl), .int .i64 (ah * bh)]) (.int .i64 0)).run Tryz.prog w = .ok (.int .i64 (al * bh)) w := fun _ => by kernel_rfl
 have j1 : ∀ w, (Instr.index 370 (.agg #[.int .i64 (al * bh), .int .i64 (ah * bl), .int .i64 (ah * bh)]) (.int .i64 1)).run Tryz.prog w = .ok (.int .i64 (ah * bl)) w := fun _ => by kernel_rfl
 have j2 : ∀ w, (Instr.index 370 (.agg #[.int .i64 (al * bh), .int .i64 (ah * bl), .int .i64 (ah * bh)]) (.int .i64 2)).run Tryz.prog w = .ok (.int .i64 (ah * bh)) w := fun _ => by kernel_rfl
 go_enter Tryz.func191, Tryz.ntmps191
 go_wp2_with fail
 refine wp_loop_rounds 5 ?_
 rw [rounds_succ]
 go_wp2_with (first | (rw [rounds_succ]))
 refine (One_any _ _).mono ?_
 (rintro e w1 ⟨rfl, hb⟩; obtain ⟨hc1, hf1⟩ := bcell hb; have hz1 := hb.size; (try simp at hz1); have HW1 := Lib.hid (show Below w.heap.size w w1 from Below.trans (by repeat' (first | with_reducible (first | exact HW0.out | apply bR | apply bD | apply bN | apply bA | apply bS) | (simp; done) | (simp; omega) | omega)) (hb.mono (by first | omega | simp <;> omega))); clear hb; (try have z10 : w.heap.size < w1.heap.size := by omega); (try have z11 : w.heap.size + 1 < w1.heap.size := by omega); (try have z12 : w.heap.size + 1 + 1 < w1.heap.size := by omega); (try have z13 : w.heap.size + 1 + 1 + 1 < w1.heap.size := by omega))
 clear i0 i1 i2 i3
 go_wp2_with fail
 refine wp_loop_rounds 4 ?_
 rw [rounds_succ]
 have HWV := HW1
 all_goals
  go_wp2_with (first | (rw [rounds_succ]))
  go_region_with (first | (go_at_call 60; refine (One_exact _ _).mono ?_; rintro e w2 ⟨rfl, rfl⟩) | (go_at_call 105; refine (Join_any _ _ _ _ _).mono ?_; rintro e w2 ⟨rfl, hb⟩; obtain ⟨hc, hf⟩ := bcell hb; have hz := hb.size; (try simp at hz); have y0 : w.heap.size < w2.heap.size := (by omega); have y1 : w.heap.size + 1 < w2.heap.size := (by omega); have y2 : w.heap.size + 1 + 1 < w2.heap.size := (by omega); have yc : w1.heap.size < w2.heap.size := (by omega); have hwn : Below w.heap.size w w2 := Below.trans (by repeat' (first | with_reducible exact HWV.out | with_reducible refine Below.drew ?_ | with_reducible refine Below.alloc ?_ ?_ _ | with_reducible refine Below.setCell ?_ ?_ _ | (simp; done) | (simp; omega) | omega)) (hb.mono (by first | omega | simp <;> omega)); clear hb))
 all_goals
  have a0 : w2.cell? ⟨w1.heap.size, 0, none⟩ = some (.int .i64 (al * bl)) := by rw [hc _ _ (by first | (simp; done) | (simp; omega))]; simp [go_sem, *]
  have ra0 : w2.frozen? ⟨w1.heap.size, 0, none⟩ = false := by rw [hf _ _ (by first | (simp; done) | (simp; omega))]; simp [go_sem, *]
  have a1 : w2.cell? ⟨w1.heap.size, 1, none⟩ = some (.int .i64 (al * bl)) := by rw [hc _ _ (by first | (simp; done) | (simp; omega))]; simp [go_sem, *]
  have ra1 : w2.frozen? ⟨w1.heap.size, 1, none⟩ = false := by rw [hf _ _ (by first | (simp; done) | (simp; omega))]; simp [go_sem, *]
  have b0 : w2.cell? ⟨w.heap.size + 1 + 1, 0, none⟩ = some (.int .i64 0) := by rw [hc _ _ (by first | (simp; done) | (simp; omega))]; simp [go_sem, *]
  have rb0 : w2.frozen? ⟨w.heap.size + 1 + 1, 0, none⟩ = false := by rw [hf _ _ (by first | (simp; done) | (simp; omega))]; simp [go_sem, *]
  have b1 : w2.cell? ⟨w.heap.size + 1 + 1, 1, none⟩ = some (.int .i64 0) := by rw [hc _ _ (by first | (simp; done) | (simp; omega))]; simp [go_sem, *]
  have rb1 : w2.frozen? ⟨w.heap.size + 1 + 1, 1, none⟩ = false := by rw [hf _ _ (by first | (simp; done) | (simp; omega))]; simp [go_sem, *]
  clear hc hf
  have q0 : ((w2.setCell ⟨w1.heap.size, 0, none⟩ (.int .i64 (min (al * bl) (al * bh)))).setCell ⟨w1.heap.size, 1, none⟩ (.int .i64 (max (al * bl) (al * bh)))).cell? ⟨w1.heap.size, 0, none⟩ = some (.int .i64 (min (al * bl) (al * bh))) := by simp [go_sem, *]
  have q1 : ((w2.setCell ⟨w1.heap.size, 0, none⟩ (.int .i64 (min (al * bl) (al * bh)))).setCell ⟨w1.heap.size, 1, none⟩ (.int .i64 (max (al * bl) (al * bh)))).cell? ⟨w1.heap.size, 1, none⟩ = some (.int .i64 (max (al * bl) (al * bh))) := by simp [go_sem, *]
  have q2 : ((w2.setCell ⟨w1.heap.size, 0, none⟩ (.int .i64 (min (al * bl) (al * bh)))).setCell ⟨w1.heap.size, 1, none⟩ (.int .i64 (max (al * bl) (al * bh)))).frozen? ⟨w1.heap.size, 0, none⟩ = false := by simp [go_sem, *]
  have q3 : ((w2.setCell ⟨w1.heap.size, 0, none⟩ (.int .i64 (min (al * bl) (al * bh)))).setCell ⟨w1.heap.size, 1, none⟩ (.int .i64 (max (al * bl) (al * bh)))).frozen? ⟨w1.heap.size, 1, none⟩ = false := by simp [go_sem, *]
  have q4 : ((w2.setCell ⟨w1.heap.size, 0, none⟩ (.int .i64 (min (al * bl) (al * bh)))).setCell ⟨w1.heap.size, 1, none⟩ (.int .i64 (max (al * bl) (al * bh)))).cell? ⟨w.heap.size + 1 + 1, 0, none⟩ = some (.int .i64 0) := by simp [go_sem, *]
  have q6 : ((w2.setCell ⟨w1.heap.size, 0, none⟩ (.int .i64 (min (al * bl) (al * bh)))).setCell ⟨w1.heap.size, 1, none⟩ (.int .i64 (max (al * bl) (al * bh)))).frozen? ⟨w.heap.size + 1 + 1, 0, none⟩ = false := by simp [go_sem, *]
  have q5 : ((w2.setCell ⟨w1.heap.size, 0, none⟩ (.int .i64 (min (al * bl) (al * bh)))).setCell ⟨w1.heap.size, 1, none⟩ (.int .i64 (max (al * bl) (al * bh)))).cell? ⟨w.heap.size + 1 + 1, 1, none⟩ = some (.int .i64 0) := by simp [go_sem, *]
  have q7 : ((w2.setCell ⟨w1.heap.size, 0, none⟩ (.int .i64 (min (al * bl) (al * bh)))).setCell ⟨w1.heap.size, 1, none⟩ (.int .i64 (max (al * bl) (al * bh)))).frozen? ⟨w.heap.size + 1 + 1, 1, none⟩ = false := by simp [go_sem, *]
  have q8 : w.heap.size + 1 + 1 < ((w2.setCell ⟨w1.heap.size, 0, none⟩ (.int .i64 (min (al * bl) (al * bh)))).setCell ⟨w1.heap.size, 1, none⟩ (.int .i64 (max (al * bl) (al * bh)))).heap.size := by simp; omega
  have q9 : w1.heap.size < ((w2.setCell ⟨w1.heap.size, 0, none⟩ (.int .i64 (min (al * bl) (al * bh)))).setCell ⟨w1.heap.size, 1, none⟩ (.int .i64 (max (al * bl) (al * bh)))).heap.size := by simp; omega
  have HWV := Lib.hid (show Below w.heap.size w ((w2.setCell ⟨w1.heap.size, 0, none⟩ (.int .i64 (min (al * bl) (al * bh)))).setCell ⟨w1.heap.size, 1, none⟩ (.int .i64 (max (al * bl) (al * bh)))) from Below.setCell (Below.setCell hwn (by simp; omega) _) (by simp; omega) _)
  clear a0 a1 b0 b1 ra0 ra1 rb0 rb1
  generalize ((w2.setCell ⟨w1.heap.size, 0, none⟩ (.int .i64 (min (al * bl) (al * bh)))).setCell ⟨w1.heap.size, 1, none⟩ (.int .i64 (max (al * bl) (al * bh)))) = wv at *
  have q10 : ¬ w1.heap.size = wv.heap.size := by omega
 all_goals
  go_wp2_with (first | (rw [rounds_succ]))
  go_region_with (first | (go_at_call 60; refine (One_exact _ _).mono ?_; rintro e w2 ⟨rfl, rfl⟩) | (go_at_call 105; refine (Join_any _ _ _ _ _).mono ?_; rintro e w2 ⟨rfl, hb⟩; obtain ⟨hc, hf⟩ := bcell hb; have hz := hb.size; (try simp at hz); have y0 : w.heap.size < w2.heap.size := (by omega); have y1 : w.heap.size + 1 < w2.heap.size := (by omega); have y2 : w.heap.size + 1 + 1 < w2.heap.size := (by omega); have yc : w1.heap.size < w2.heap.size := (by omega); have hwn : Below w.heap.size w w2 := Below.trans (by repeat' (first | with_reducible exact HWV.out | with_reducible refine Below.drew ?_ | with_reducible refine Below.alloc ?_ ?_ _ | with_reducible refine Below.setCell ?_ ?_ _ | (simp; done) | (simp; omega) | omega)) (hb.mono (by first | omega | simp <;> omega)); clear hb))
 all_goals
  have a0 : w2.cell? ⟨w1.heap.size, 0, none⟩ = some (.int .i64 (min (al * bl) (al * bh))) := by rw [hc _ _ (by first | (simp; done) | (simp; omega))]; simp [go_sem, *]
  have ra0 : w2.frozen? ⟨w1.heap.size, 0, none⟩ = false := by rw [hf _ _ (by first | (simp; done) | (simp; omega))]; simp [go_sem, *]
  have a1 : w2.cell? ⟨w1.heap.size, 1, none⟩ = some (.int .i64 (max (al * bl) (al * bh))) := by rw [hc _ _ (by first | (simp; done) | (simp; omega))]; simp [go_sem, *]
  have ra1 : w2.frozen? ⟨w1.heap.size, 1, none⟩ = false := by rw [hf _ _ (by first | (simp; done) | (simp; omega))]; simp [go_sem, *]
  have b0 : w2.cell? ⟨w.heap.size + 1 + 1, 0, none⟩ = some (.int .i64 0) := by rw [hc _ _ (by first | (simp; done) | (simp; omega))]; simp [go_sem, *]
  have rb0 : w2.frozen? ⟨w.heap.size + 1 + 1, 0, none⟩ = false := by rw [hf _ _ (by first | (simp; done) | (simp; omega))]; simp [go_sem, *]
  have b1 : w2.cell? ⟨w.heap.size + 1 + 1, 1, none⟩ = some (.int .i64 0) := by rw [hc _ _ (by first | (simp; done) | (simp; omega))]; simp [go_sem, *]
  have rb1 : w2.frozen? ⟨w.heap.size + 1 + 1, 1, none⟩ = false := by rw [hf _ _ (by first | (simp; done) | (simp; omega))]; simp [go_sem, *]
  clear hc hf
  have q0 : ((w2.setCell ⟨w1.heap.size, 0, none⟩ (.int .i64 (min (al * bl) (min (al * bh) (ah * bl))))).setCell ⟨w1.heap.size, 1, none⟩ (.int .i64 (max (al * bl) (max (al * bh) (ah * bl))))).cell? ⟨w1.heap.size, 0, none⟩ = some (.int .i64 (min (al * bl) (min (al * bh) (ah * bl)))) := by simp [go_sem, *]
  have q1 : ((w2.setCell ⟨w1.heap.size, 0, none⟩ (.int .i64 (min (al * bl) (min (al * bh) (ah * bl))))).setCell ⟨w1.heap.size, 1, none⟩ (.int .i64 (max (al * bl) (max (al * bh) (ah * bl))))).cell? ⟨w1.heap.size, 1, none⟩ = some (.int .i64 (max (al * bl) (max (al * bh) (ah * bl)))) := by simp [go_sem, *]
  have q2 : ((w2.setCell ⟨w1.heap.size, 0, none⟩ (.int .i64 (min (al * bl) (min (al * bh) (ah * bl))))).setCell ⟨w1.heap.size, 1, none⟩ (.int .i64 (max (al * bl) (max (al * bh) (ah * bl))))).frozen? ⟨w1.heap.size, 0, none⟩ = false := by simp [go_sem, *]
  have q3 : ((w2.setCell ⟨w1.heap.size, 0, none⟩ (.int .i64 (min (al * bl) (min (al * bh) (ah * bl))))).setCell ⟨w1.heap.size, 1, none⟩ (.int .i64 (max (al * bl) (max (al * bh) (ah * bl))))).frozen? ⟨w1.heap.size, 1, none⟩ = false := by simp [go_sem, *]
  have q4 : ((w2.setCell ⟨w1.heap.size, 0, none⟩ (.int .i64 (min (al * bl) (min (al * bh) (ah * bl))))).setCell ⟨w1.heap.size, 1, none⟩ (.int .i64 (max (al * bl) (max (al * bh) (ah * bl))))).cell? ⟨w.heap.size + 1 + 1, 0, none⟩ = some (.int .i64 0) := by simp [go_sem, *]
  have q6 : ((w2.setCell ⟨w1.heap.size, 0, none⟩ (.int .i64 (min (al * bl) (min (al * bh) (ah * bl))))).setCell ⟨w1.heap.size, 1, none⟩ (.int .i64 (max (al * bl) (max (al * bh) (ah * bl))))).frozen? ⟨w.heap.size + 1 + 1, 0, none⟩ = false := by simp [go_sem, *]
  have q5 : ((w2.setCell ⟨w1.heap.size, 0, none⟩ (.int .i64 (min (al * bl) (min (al * bh) (ah * bl))))).setCell ⟨w1.heap.size, 1, none⟩ (.int .i64 (max (al * bl) (max (al * bh) (ah * bl))))).cell? ⟨w.heap.size + 1 + 1, 1, none⟩ = some (.int .i64 0) := by simp [go_sem, *]
  have q7 : ((w2.setCell ⟨w1.heap.size, 0, none⟩ (.int .i64 (min (al * bl) (min (al * bh) (ah * bl))))).setCell ⟨w1.heap.size, 1, none⟩ (.int .i64 (max (al * bl) (max (al * bh) (ah * bl))))).frozen? ⟨w.heap.size + 1 + 1, 1, none⟩ = false := by simp [go_sem, *]
  have q8 : w.heap.size + 1 + 1 < ((w2.setCell ⟨w1.heap.size, 0, none⟩ (.int .i64 (min (al * bl) (min (al * bh) (ah * bl))))).setCell ⟨w1.heap.size, 1, none⟩ (.int .i64 (max (al * bl) (max (al * bh) (ah * bl))))).heap.size := by simp; omega
  have q9 : w1.heap.size < ((w2.setCell ⟨w1.heap.size, 0, none⟩ (.int .i64 (min (al * bl) (min (al * bh) (ah * bl))))).setCell ⟨w1.heap.size, 1, none⟩ (.int .i64 (max (al * bl) (max (al * bh) (ah * bl))))).heap.size := by simp; omega
  have HWV := Lib.hid (show Below w.heap.size w ((w2.setCell ⟨w1.heap.size, 0, none⟩ (.int .i64 (min (al * bl) (min (al * bh) (ah * bl))))).setCell ⟨w1.heap.size, 1, none⟩ (.int .i64 (max (al * bl) (max (al * bh) (ah * bl))))) from Below.setCell (Below.setCell hwn (by simp; omega) _) (by simp; omega) _)
  clear a0 a1 b0 b1 ra0 ra1 rb0 rb1
  generalize ((w2.setCell ⟨w1.heap.size, 0, none⟩ (.int .i64 (min (al * bl) (min (al * bh) (ah * bl))))).setCell ⟨w1.heap.size, 1, none⟩ (.int .i64 (max (al * bl) (max (al * bh) (ah * bl))))) = wv at *
  have q10 : ¬ w1.heap.size = wv.heap.size := by omega
 all_goals
  go_wp2_with (first | (rw [rounds_succ]))
  go_region_with (first | (go_at_call 60; refine (One_exact _ _).mono ?_; rintro e w2 ⟨rfl, rfl⟩) | (go_at_call 105; refine (Join_any _ _ _ _ _).mono ?_; rintro e w2 ⟨rfl, hb⟩; obtain ⟨hc, hf⟩ := bcell hb; have hz := hb.size; (try simp at hz); have y0 : w.heap.size < w2.heap.size := (by omega); have y1 : w.heap.size + 1 < w2.heap.size := (by omega); have y2 : w.heap.size + 1 + 1 < w2.heap.size := (by omega); have yc : w1.heap.size < w2.heap.size := (by omega); have hwn : Below w.heap.size w w2 := Below.trans (by repeat' (first | with_reducible exact HWV.out | with_reducible refine Below.drew ?_ | with_reducible refine Below.alloc ?_ ?_ _ | with_reducible refine Below.setCell ?_ ?_ _ | (simp; done) | (simp; omega) | omega)) (hb.mono (by first | omega | simp <;> omega)); clear hb))
 all_goals
  have a0 : w2.cell? ⟨w1.heap.size, 0, none⟩ = some (.int .i64 (min (al * bl) (min (al * bh) (ah * bl)))) := by rw [hc _ _ (by first | (simp; done) | (simp; omega))]; simp [go_sem, *]
  have ra0 : w2.frozen? ⟨w1.heap.size, 0, none⟩ = false := by rw [hf _ _ (by first | (simp; done) | (simp; omega))]; simp [go_sem, *]
  have a1 : w2.cell? ⟨w1.heap.size, 1, none⟩ = some (.int .i64 (max (al * bl) (max (al * bh) (ah * bl)))) := by rw [hc _ _ (by first | (simp; done) | (simp; omega))]; simp [go_sem, *]
  have ra1 : w2.frozen? ⟨w1.heap.size, 1, none⟩ = false := by rw [hf _ _ (by first | (simp; done) | (simp; omega))]; simp [go_sem, *]
  have b0 : w2.cell? ⟨w.heap.size + 1 + 1, 0, none⟩ = some (.int .i64 0) := by rw [hc _ _ (by first | (simp; done) | (simp; omega))]; simp [go_sem, *]
  have rb0 : w2.frozen? ⟨w.heap.size + 1 + 1, 0, none⟩ = false := by rw [hf _ _ (by first | (simp; done) | (simp; omega))]; simp [go_sem, *]
  have b1 : w2.cell? ⟨w.heap.size + 1 + 1, 1, none⟩ = some (.int .i64 0) := by rw [hc _ _ (by first | (simp; done) | (simp; omega))]; simp [go_sem, *]
  have rb1 : w2.frozen? ⟨w.heap.size + 1 + 1, 1, none⟩ = false := by rw [hf _ _ (by first | (simp; done) | (simp; omega))]; simp [go_sem, *]
  clear hc hf
  have q0 : ((w2.setCell ⟨w1.heap.size, 0, none⟩ (.int .i64 (min (al * bl) (min (al * bh) (min (ah * bl) (ah * bh)))))).setCell ⟨w1.heap.size, 1, none⟩ (.int .i64 (max (al * bl) (max (al * bh) (max (ah * bl) (ah * bh)))))).cell? ⟨w1.heap.size, 0, none⟩ = some (.int .i64 (min (al * bl) (min (al * bh) (min (ah * bl) (ah * bh))))) := by simp [go_sem, *]
  have q1 : ((w2.setCell ⟨w1.heap.size, 0, none⟩ (.int .i64 (min (al * bl) (min (al * bh) (min (ah * bl) (ah * bh)))))).setCell ⟨w1.heap.size, 1, none⟩ (.int .i64 (max (al * bl) (max (al * bh) (max (ah * bl) (ah * bh)))))).cell? ⟨w1.heap.size, 1, none⟩ = some (.int .i64 (max (al * bl) (max (al * bh) (max (ah * bl) (ah * bh))))) := by simp [go_sem, *]
  have q2 : ((w2.setCell ⟨w1.heap.size, 0, none⟩ (.int .i64 (min (al * bl) (min (al * bh) (min (ah * bl) (ah * bh)))))).setCell ⟨w1.heap.size, 1, none⟩ (.int .i64 (max (al * bl) (max (al * bh) (max (ah * bl) (ah * bh)))))).frozen? ⟨w1.heap.size, 0, none⟩ = false := by simp [go_sem, *]
  have q3 : ((w2.setCell ⟨w1.heap.size, 0, none⟩ (.int .i64 (min (al * bl) (min (al * bh) (min (ah * bl) (ah * bh)))))).setCell ⟨w1.heap.size, 1, none⟩ (.int .i64 (max (al * bl) (max (al * bh) (max (ah * bl) (ah * bh)))))).frozen? ⟨w1.heap.size, 1, none⟩ = false := by simp [go_sem, *]
  have q4 : ((w2.setCell ⟨w1.heap.size, 0, none⟩ (.int .i64 (min (al * bl) (min (al * bh) (min (ah * bl) (ah * bh)))))).setCell ⟨w1.heap.size, 1, none⟩ (.int .i64 (max (al * bl) (max (al * bh) (max (ah * bl) (ah * bh)))))).cell? ⟨w.heap.size + 1 + 1, 0, none⟩ = some (.int .i64 0) := by simp [go_sem, *]
  have q6 : ((w2.setCell ⟨w1.heap.size, 0, none⟩ (.int .i64 (min (al * bl) (min (al * bh) (min (ah * bl) (ah * bh)))))).setCell ⟨w1.heap.size, 1, none⟩ (.int .i64 (max (al * bl) (max (al * bh) (max (ah * bl) (ah * bh)))))).frozen? ⟨w.heap.size + 1 + 1, 0, none⟩ = false := by simp [go_sem, *]
  have q5 : ((w2.setCell ⟨w1.heap.size, 0, none⟩ (.int .i64 (min (al * bl) (min (al * bh) (min (ah * bl) (ah * bh)))))).setCell ⟨w1.heap.size, 1, none⟩ (.int .i64 (max (al * bl) (max (al * bh) (max (ah * bl) (ah * bh)))))).cell? ⟨w.heap.size + 1 + 1, 1, none⟩ = some (.int .i64 0) := by simp [go_sem, *]
  have q7 : ((w2.setCell ⟨w1.heap.size, 0, none⟩ (.int .i64 (min (al * bl) (min (al * bh) (min (ah * bl) (ah * bh)))))).setCell ⟨w1.heap.size, 1, none⟩ (.int .i64 (max (al * bl) (max (al * bh) (max (ah * bl) (ah * bh)))))).frozen? ⟨w.heap.size + 1 + 1, 1, none⟩ = false := by simp [go_sem, *]
  have q8 : w.heap.size + 1 + 1 < ((w2.setCell ⟨w1.heap.size, 0, none⟩ (.int .i64 (min (al * bl) (min (al * bh) (min (ah * bl) (ah * bh)))))).setCell ⟨w1.heap.size, 1, none⟩ (.int .i64 (max (al * bl) (max (al * bh) (max (ah * bl) (ah * bh)))))).heap.size := by simp; omega
  have q9 : w1.heap.size < ((w2.setCell ⟨w1.heap.size, 0, none⟩ (.int .i64 (min (al * bl) (min (al * bh) (min (ah * bl) (ah * bh)))))).setCell ⟨w1.heap.size, 1, none⟩ (.int .i64 (max (al * bl) (max (al * bh) (max (ah * bl) (ah * bh)))))).heap.size := by simp; omega
  have HWV := Lib.hid (show Below w.heap.size w ((w2.setCell ⟨w1.heap.size, 0, none⟩ (.int .i64 (min (al * bl) (min (al * bh) (min (ah * bl) (ah * bh)))))).setCell ⟨w1.heap.size, 1, none⟩ (.int .i64 (max (al * bl) (max (al * bh) (max (ah * bl) (ah * bh)))))) from Below.setCell (Below.setCell hwn (by simp; omega) _) (by simp; omega) _)
  clear a0 a1 b0 b1 ra0 ra1 rb0 rb1
  generalize ((w2.setCell ⟨w1.heap.size, 0, none⟩ (.int .i64 (min (al * bl) (min (al * bh) (min (ah * bl) (ah * bh)))))).setCell ⟨w1.heap.size, 1, none⟩ (.int .i64 (max (al * bl) (max (al * bh) (max (ah * bl) (ah * bh)))))) = wv at *
  have q10 : ¬ w1.heap.size = wv.heap.size := by omega
 all_goals
  go_wp2_with (first | (rw [rounds_succ]))
  refine bodyPost_ret (v := .agg #[.int .i64 (min (al * bl) (min (al * bh) (min (ah * bl) (ah * bh)))), .int .i64 (max (al * bl) (max (al * bh) (max (ah * bl) (ah * bh))))]) (by simp [results, Tryz.results191, go_sem, *]) rfl ⟨rfl, ?_⟩
  repeat' (first | with_reducible exact HWV.out | with_reducible refine Below.drew ?_ | with_reducible refine Below.alloc ?_ ?_ _ | with_reducible refine Below.setCell ?_ ?_ _ | (simp; done) | (simp; omega) | omega)
end Go.Proofs.YtpdlmbbgioenoaaGreatDoor.W
