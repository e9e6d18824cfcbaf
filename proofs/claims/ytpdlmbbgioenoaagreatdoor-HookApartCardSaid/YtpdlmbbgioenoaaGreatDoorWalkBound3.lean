/- A part of the proof; each theorem states its conditions. -/
import Derived.Test.YtpdlmbbgioenoaaGreatDoorWalkBound2
set_option linter.unusedSimpArgs false
set_option linter.unusedVariables false
namespace Go.Proofs.YtpdlmbbgioenoaaGreatDoor.W
open Go.RowKit Go.Proofs.YtpdlmbbgioenoaaGreatDoor.P
set_option maxRecDepth 100000 in
set_option maxHeartbeats 4000000 in
theorem Narrow_any (c al ah bl bh : Int) (ia : In64 al) (ia2 : In64 ah) (ib : In64 bl) (ib2 : In64 bh) (w : World) :
  Calls Tryz.prog 146 #[.int .i64 c, .agg #[.int .i64 al, .int .i64 ah], .agg #[.int .i64 bl, .int .i64 bh]] w fun e w' => e = .returned (.tuple #[.agg #[.int .i64 (bnarrow c ⟨al, ah⟩ ⟨bl, bh⟩).1.lo, .int .i64 (bnarrow c ⟨al, ah⟩ ⟨bl, bh⟩).1.hi], .agg #[.int .i64 (bnarrow c ⟨al, ah⟩ ⟨bl, bh⟩).2.1.lo, .int .i64 (bnarrow c ⟨al, ah⟩ ⟨bl, bh⟩).2.1.hi], .bool (bnarrow c ⟨al, ah⟩ ⟨bl, bh⟩).2.2]) ∧ Below w.heap.size w w' := by
 have HW0 := Lib.hid (Below.refl w.heap.size w)
 have IA := Lib.hid ia; have IA2 := Lib.hid ia2; have IB := Lib.hid ib; have IB2 := Lib.hid ib2
 clear ia ia2 ib ib2
 by_cases h1 : c = 15
 ·subst h1
  generalize ho : bmeet ⟨al, ah⟩ ⟨bl, bh⟩ = o
  have e : bnarrow 15 ⟨al, ah⟩ ⟨bl, bh⟩ = (o.1, o.1, o.2) := by rw [← ho]; rfl
  rw [e]
  have HO := Lib.hid ho
  clear e ho
  obtain ⟨⟨ol, oh⟩, ob⟩ := o
  go_enter Tryz.func146, Tryz.ntmps146
  go_wp2_with fail
  refine (Meet_any _ _ _ _ _).mono ?_
  rw [HO.out]
  (rintro e w1 ⟨rfl, hb⟩; obtain ⟨hc1, hf1⟩ := bcell hb; have hz1 := hb.size; (try simp at hz1); have HW1 := Lib.hid (show Below w.heap.size w w1 from Below.trans (by repeat' (first | with_reducible (first | exact HW0.out | apply bR | apply bD | apply bN | apply bA | apply bS) | (simp; done) | (simp; omega) | omega)) (hb.mono (by first | omega | simp <;> omega))); clear hb; (try have z10 : w.heap.size < w1.heap.size := by omega); (try have z11 : w.heap.size + 1 < w1.heap.size := by omega); (try have z12 : w.heap.size + 1 + 1 < w1.heap.size := by omega); (try have z13 : w.heap.size + 1 + 1 + 1 < w1.heap.size := by omega); (try have z14 : w.heap.size + 1 + 1 + 1 + 1 < w1.heap.size := by omega))
  have c1_0_0 : w1.cell? ⟨w.heap.size, 0, none⟩ = some (.int .i64 (al)) := by simp [go_sem, hc1]
  have r1_0_0 : w1.frozen? ⟨w.heap.size, 0, none⟩ = false := by simp [go_sem, hf1]
  have c1_0_1 : w1.cell? ⟨w.heap.size, 1, none⟩ = some (.int .i64 (ah)) := by simp [go_sem, hc1]
  have r1_0_1 : w1.frozen? ⟨w.heap.size, 1, none⟩ = false := by simp [go_sem, hf1]
  have c1_1_0 : w1.cell? ⟨w.heap.size + 1, 0, none⟩ = some (.int .i64 (bl)) := by simp [go_sem, hc1]
  have r1_1_0 : w1.frozen? ⟨w.heap.size + 1, 0, none⟩ = false := by simp [go_sem, hf1]
  have c1_1_1 : w1.cell? ⟨w.heap.size + 1, 1, none⟩ = some (.int .i64 (bh)) := by simp [go_sem, hc1]
  have r1_1_1 : w1.frozen? ⟨w.heap.size + 1, 1, none⟩ = false := by simp [go_sem, hf1]
  have c1_2_0 : w1.cell? ⟨w.heap.size + 1 + 1, 0, none⟩ = some (.int .i64 (0)) := by simp [go_sem, hc1]
  have r1_2_0 : w1.frozen? ⟨w.heap.size + 1 + 1, 0, none⟩ = false := by simp [go_sem, hf1]
  have c1_2_1 : w1.cell? ⟨w.heap.size + 1 + 1, 1, none⟩ = some (.int .i64 (0)) := by simp [go_sem, hc1]
  have r1_2_1 : w1.frozen? ⟨w.heap.size + 1 + 1, 1, none⟩ = false := by simp [go_sem, hf1]
  have c1_3_0 : w1.cell? ⟨w.heap.size + 1 + 1 + 1, 0, none⟩ = some (.int .i64 (0)) := by simp [go_sem, hc1]
  have r1_3_0 : w1.frozen? ⟨w.heap.size + 1 + 1 + 1, 0, none⟩ = false := by simp [go_sem, hf1]
  have c1_3_1 : w1.cell? ⟨w.heap.size + 1 + 1 + 1, 1, none⟩ = some (.int .i64 (0)) := by simp [go_sem, hc1]
  have r1_3_1 : w1.frozen? ⟨w.heap.size + 1 + 1 + 1, 1, none⟩ = false := by simp [go_sem, hf1]
  clear hc1 hf1
  go_wp2_with fail
  go_region
  go_wp2_with fail
  exact bodyPost_ret (v := .tuple #[.agg #[.int .i64 (ol), .int .i64 (oh)], .agg #[.int .i64 (ol), .int .i64 (oh)], .bool ob]) (by simp [results, Tryz.results146, go_sem, c1_0_0, c1_0_1, c1_1_0, c1_1_1, c1_2_0, c1_2_1, c1_3_0, c1_3_1, z10, z11, z12, z13]) rfl ⟨rfl, (by repeat' (first | with_reducible (first | exact HW1.out | apply bR | apply bD | apply bN | apply bA | apply bS) | (simp; done) | (simp; omega) | omega))⟩
 by_cases h2 : c = 16
 ·subst h2
  generalize ho : bunlike ⟨al, ah⟩ ⟨bl, bh⟩ = o
  have e : bnarrow 16 ⟨al, ah⟩ ⟨bl, bh⟩ = o := by rw [← ho]; rfl
  rw [e]
  have HO := Lib.hid ho
  clear e ho
  obtain ⟨⟨ol, oh⟩, ⟨pl, ph⟩, ob⟩ := o
  go_enter Tryz.func146, Tryz.ntmps146
  go_wp2_with fail
  refine (unlike_any _ _ _ _ IA.out IA2.out IB.out IB2.out _).mono ?_
  rw [HO.out]
  (rintro e w1 ⟨rfl, hb⟩; obtain ⟨hc1, hf1⟩ := bcell hb; have hz1 := hb.size; (try simp at hz1); have HW1 := Lib.hid (show Below w.heap.size w w1 from Below.trans (by repeat' (first | with_reducible (first | exact HW0.out | apply bR | apply bD | apply bN | apply bA | apply bS) | (simp; done) | (simp; omega) | omega)) (hb.mono (by first | omega | simp <;> omega))); clear hb; (try have z10 : w.heap.size < w1.heap.size := by omega); (try have z11 : w.heap.size + 1 < w1.heap.size := by omega); (try have z12 : w.heap.size + 1 + 1 < w1.heap.size := by omega); (try have z13 : w.heap.size + 1 + 1 + 1 < w1.heap.size := by omega); (try have z14 : w.heap.size + 1 + 1 + 1 + 1 < w1.heap.size := by omega))
  have c1_0_0 : w1.cell? ⟨w.heap.size, 0, none⟩ = some (.int .i64 (al)) := by simp [go_sem, hc1]
  have r1_0_0 : w1.frozen? ⟨w.heap.size, 0, none⟩ = false := by simp [go_sem, hf1]
  have c1_0_1 : w1.cell? ⟨w.heap.size, 1, none⟩ = some (.int .i64 (ah)) := by simp [go_sem, hc1]
  have r1_0_1 : w1.frozen? ⟨w.heap.size, 1, none⟩ = false := by simp [go_sem, hf1]
  have c1_1_0 : w1.cell? ⟨w.heap.size + 1, 0, none⟩ = some (.int .i64 (bl)) := by simp [go_sem, hc1]
  have r1_1_0 : w1.frozen? ⟨w.heap.size + 1, 0, none⟩ = false := by simp [go_sem, hf1]
  have c1_1_1 : w1.cell? ⟨w.heap.size + 1, 1, none⟩ = some (.int .i64 (bh)) := by simp [go_sem, hc1]
  have r1_1_1 : w1.frozen? ⟨w.heap.size + 1, 1, none⟩ = false := by simp [go_sem, hf1]
  have c1_2_0 : w1.cell? ⟨w.heap.size + 1 + 1, 0, none⟩ = some (.int .i64 (0)) := by simp [go_sem, hc1]
  have r1_2_0 : w1.frozen? ⟨w.heap.size + 1 + 1, 0, none⟩ = false := by simp [go_sem, hf1]
  have c1_2_1 : w1.cell? ⟨w.heap.size + 1 + 1, 1, none⟩ = some (.int .i64 (0)) := by simp [go_sem, hc1]
  have r1_2_1 : w1.frozen? ⟨w.heap.size + 1 + 1, 1, none⟩ = false := by simp [go_sem, hf1]
  have c1_3_0 : w1.cell? ⟨w.heap.size + 1 + 1 + 1, 0, none⟩ = some (.int .i64 (0)) := by simp [go_sem, hc1]
  have r1_3_0 : w1.frozen? ⟨w.heap.size + 1 + 1 + 1, 0, none⟩ = false := by simp [go_sem, hf1]
  have c1_3_1 : w1.cell? ⟨w.heap.size + 1 + 1 + 1, 1, none⟩ = some (.int .i64 (0)) := by simp [go_sem, hc1]
  have r1_3_1 : w1.frozen? ⟨w.heap.size + 1 + 1 + 1, 1, none⟩ = false := by simp [go_sem, hf1]
  clear hc1 hf1
  go_wp2_with fail
  exact bodyPost_ret (v := .tuple #[.agg #[.int .i64 (ol), .int .i64 (oh)], .agg #[.int .i64 (pl), .int .i64 (ph)], .bool ob]) (by simp [results, Tryz.results146, go_sem, c1_0_0, c1_0_1, c1_1_0, c1_1_1, c1_2_0, c1_2_1, c1_3_0, c1_3_1]) rfl ⟨rfl, (by repeat' (first | with_reducible (first | exact HW1.out | apply bR | apply bD | apply bN | apply bA | apply bS) | (simp; done) | (simp; omega) | omega))⟩
 by_cases h3 : c = 21
 ·subst h3
  generalize ho : border ⟨al, ah⟩ ⟨bl, bh⟩ false = o
  have e : bnarrow 21 ⟨al, ah⟩ ⟨bl, bh⟩ = o := by rw [← ho]; rfl
  rw [e]
  have HO := Lib.hid ho
  clear e ho
  obtain ⟨⟨ol, oh⟩, ⟨pl, ph⟩, ob⟩ := o
  go_enter Tryz.func146, Tryz.ntmps146
  go_wp2_with fail
  refine (order_any _ _ _ _ _ IB.out IA2.out _).mono ?_
  rw [HO.out]
  (rintro e w1 ⟨rfl, hb⟩; obtain ⟨hc1, hf1⟩ := bcell hb; have hz1 := hb.size; (try simp at hz1); have HW1 := Lib.hid (show Below w.heap.size w w1 from Below.trans (by repeat' (first | with_reducible (first | exact HW0.out | apply bR | apply bD | apply bN | apply bA | apply bS) | (simp; done) | (simp; omega) | omega)) (hb.mono (by first | omega | simp <;> omega))); clear hb; (try have z10 : w.heap.size < w1.heap.size := by omega); (try have z11 : w.heap.size + 1 < w1.heap.size := by omega); (try have z12 : w.heap.size + 1 + 1 < w1.heap.size := by omega); (try have z13 : w.heap.size + 1 + 1 + 1 < w1.heap.size := by omega); (try have z14 : w.heap.size + 1 + 1 + 1 + 1 < w1.heap.size := by omega))
  have c1_0_0 : w1.cell? ⟨w.heap.size, 0, none⟩ = some (.int .i64 (al)) := by simp [go_sem, hc1]
  have r1_0_0 : w1.frozen? ⟨w.heap.size, 0, none⟩ = false := by simp [go_sem, hf1]
  have c1_0_1 : w1.cell? ⟨w.heap.size, 1, none⟩ = some (.int .i64 (ah)) := by simp [go_sem, hc1]
  have r1_0_1 : w1.frozen? ⟨w.heap.size, 1, none⟩ = false := by simp [go_sem, hf1]
  have c1_1_0 : w1.cell? ⟨w.heap.size + 1, 0, none⟩ = some (.int .i64 (bl)) := by simp [go_sem, hc1]
  have r1_1_0 : w1.frozen? ⟨w.heap.size + 1, 0, none⟩ = false := by simp [go_sem, hf1]
  have c1_1_1 : w1.cell? ⟨w.heap.size + 1, 1, none⟩ = some (.int .i64 (bh)) := by simp [go_sem, hc1]
  have r1_1_1 : w1.frozen? ⟨w.heap.size + 1, 1, none⟩ = false := by simp [go_sem, hf1]
  have c1_2_0 : w1.cell? ⟨w.heap.size + 1 + 1, 0, none⟩ = some (.int .i64 (0)) := by simp [go_sem, hc1]
  have r1_2_0 : w1.frozen? ⟨w.heap.size + 1 + 1, 0, none⟩ = false := by simp [go_sem, hf1]
  have c1_2_1 : w1.cell? ⟨w.heap.size + 1 + 1, 1, none⟩ = some (.int .i64 (0)) := by simp [go_sem, hc1]
  have r1_2_1 : w1.frozen? ⟨w.heap.size + 1 + 1, 1, none⟩ = false := by simp [go_sem, hf1]
  have c1_3_0 : w1.cell? ⟨w.heap.size + 1 + 1 + 1, 0, none⟩ = some (.int .i64 (0)) := by simp [go_sem, hc1]
  have r1_3_0 : w1.frozen? ⟨w.heap.size + 1 + 1 + 1, 0, none⟩ = false := by simp [go_sem, hf1]
  have c1_3_1 : w1.cell? ⟨w.heap.size + 1 + 1 + 1, 1, none⟩ = some (.int .i64 (0)) := by simp [go_sem, hc1]
  have r1_3_1 : w1.frozen? ⟨w.heap.size + 1 + 1 + 1, 1, none⟩ = false := by simp [go_sem, hf1]
  clear hc1 hf1
  go_wp2_with fail
  exact bodyPost_ret (v := .tuple #[.agg #[.int .i64 (ol), .int .i64 (oh)], .agg #[.int .i64 (pl), .int .i64 (ph)], .bool ob]) (by simp [results, Tryz.results146, go_sem, c1_0_0, c1_0_1, c1_1_0, c1_1_1, c1_2_0, c1_2_1, c1_3_0, c1_3_1]) rfl ⟨rfl, (by repeat' (first | with_reducible (first | exact HW1.out | apply bR | apply bD | apply bN | apply bA | apply bS) | (simp; done) | (simp; omega) | omega))⟩
 by_cases h4 : c = 22
 ·subst h4
  generalize ho : border ⟨al, ah⟩ ⟨bl, bh⟩ true = o
  have e : bnarrow 22 ⟨al, ah⟩ ⟨bl, bh⟩ = o := by rw [← ho]; rfl
  rw [e]
  have HO := Lib.hid ho
  clear e ho
  obtain ⟨⟨ol, oh⟩, ⟨pl, ph⟩, ob⟩ := o
  go_enter Tryz.func146, Tryz.ntmps146
  go_wp2_with fail
  refine (order_any _ _ _ _ _ IB.out IA2.out _).mono ?_
  rw [HO.out]
  (rintro e w1 ⟨rfl, hb⟩; obtain ⟨hc1, hf1⟩ := bcell hb; have hz1 := hb.size; (try simp at hz1); have HW1 := Lib.hid (show Below w.heap.size w w1 from Below.trans (by repeat' (first | with_reducible (first | exact HW0.out | apply bR | apply bD | apply bN | apply bA | apply bS) | (simp; done) | (simp; omega) | omega)) (hb.mono (by first | omega | simp <;> omega))); clear hb; (try have z10 : w.heap.size < w1.heap.size := by omega); (try have z11 : w.heap.size + 1 < w1.heap.size := by omega); (try have z12 : w.heap.size + 1 + 1 < w1.heap.size := by omega); (try have z13 : w.heap.size + 1 + 1 + 1 < w1.heap.size := by omega); (try have z14 : w.heap.size + 1 + 1 + 1 + 1 < w1.heap.size := by omega))
  have c1_0_0 : w1.cell? ⟨w.heap.size, 0, none⟩ = some (.int .i64 (al)) := by simp [go_sem, hc1]
  have r1_0_0 : w1.frozen? ⟨w.heap.size, 0, none⟩ = false := by simp [go_sem, hf1]
  have c1_0_1 : w1.cell? ⟨w.heap.size, 1, none⟩ = some (.int .i64 (ah)) := by simp [go_sem, hc1]
  have r1_0_1 : w1.frozen? ⟨w.heap.size, 1, none⟩ = false := by simp [go_sem, hf1]
  have c1_1_0 : w1.cell? ⟨w.heap.size + 1, 0, none⟩ = some (.int .i64 (bl)) := by simp [go_sem, hc1]
  have r1_1_0 : w1.frozen? ⟨w.heap.size + 1, 0, none⟩ = false := by simp [go_sem, hf1]
  have c1_1_1 : w1.cell? ⟨w.heap.size + 1, 1, none⟩ = some (.int .i64 (bh)) := by simp [go_sem, hc1]
  have r1_1_1 : w1.frozen? ⟨w.heap.size + 1, 1, none⟩ = false := by simp [go_sem, hf1]
  have c1_2_0 : w1.cell? ⟨w.heap.size + 1 + 1, 0, none⟩ = some (.int .i64 (0)) := by simp [go_sem, hc1]
  have r1_2_0 : w1.frozen? ⟨w.heap.size + 1 + 1, 0, none⟩ = false := by simp [go_sem, hf1]
  have c1_2_1 : w1.cell? ⟨w.heap.size + 1 + 1, 1, none⟩ = some (.int .i64 (0)) := by simp [go_sem, hc1]
  have r1_2_1 : w1.frozen? ⟨w.heap.size + 1 + 1, 1, none⟩ = false := by simp [go_sem, hf1]
  have c1_3_0 : w1.cell? ⟨w.heap.size + 1 + 1 + 1, 0, none⟩ = some (.int .i64 (0)) := by simp [go_sem, hc1]
  have r1_3_0 : w1.frozen? ⟨w.heap.size + 1 + 1 + 1, 0, none⟩ = false := by simp [go_sem, hf1]
  have c1_3_1 : w1.cell? ⟨w.heap.size + 1 + 1 + 1, 1, none⟩ = some (.int .i64 (0)) := by simp [go_sem, hc1]
  have r1_3_1 : w1.frozen? ⟨w.heap.size + 1 + 1 + 1, 1, none⟩ = false := by simp [go_sem, hf1]
  clear hc1 hf1
  go_wp2_with fail
  exact bodyPost_ret (v := .tuple #[.agg #[.int .i64 (ol), .int .i64 (oh)], .agg #[.int .i64 (pl), .int .i64 (ph)], .bool ob]) (by simp [results, Tryz.results146, go_sem, c1_0_0, c1_0_1, c1_1_0, c1_1_1, c1_2_0, c1_2_1, c1_3_0, c1_3_1]) rfl ⟨rfl, (by repeat' (first | with_reducible (first | exact HW1.out | apply bR | apply bD | apply bN | apply bA | apply bS) | (simp; done) | (simp; omega) | omega))⟩
 by_cases h5 : c = 23
 ·subst h5
  generalize ho : border ⟨bl, bh⟩ ⟨al, ah⟩ false = o
  have e : bnarrow 23 ⟨al, ah⟩ ⟨bl, bh⟩ = bswap o := by rw [← ho]; rfl
  rw [e]
  have HO := Lib.hid ho
  clear e ho
  obtain ⟨⟨ol, oh⟩, ⟨pl, ph⟩, ob⟩ := o
  go_enter Tryz.func146, Tryz.ntmps146
  go_wp2_with fail
  refine (order_any _ _ _ _ _ IA.out IB2.out _).mono ?_
  rw [HO.out]
  (rintro e w1 ⟨rfl, hb⟩; obtain ⟨hc1, hf1⟩ := bcell hb; have hz1 := hb.size; (try simp at hz1); have HW1 := Lib.hid (show Below w.heap.size w w1 from Below.trans (by repeat' (first | with_reducible (first | exact HW0.out | apply bR | apply bD | apply bN | apply bA | apply bS) | (simp; done) | (simp; omega) | omega)) (hb.mono (by first | omega | simp <;> omega))); clear hb; (try have z10 : w.heap.size < w1.heap.size := by omega); (try have z11 : w.heap.size + 1 < w1.heap.size := by omega); (try have z12 : w.heap.size + 1 + 1 < w1.heap.size := by omega); (try have z13 : w.heap.size + 1 + 1 + 1 < w1.heap.size := by omega); (try have z14 : w.heap.size + 1 + 1 + 1 + 1 < w1.heap.size := by omega))
  have c1_0_0 : w1.cell? ⟨w.heap.size, 0, none⟩ = some (.int .i64 (al)) := by simp [go_sem, hc1]
  have r1_0_0 : w1.frozen? ⟨w.heap.size, 0, none⟩ = false := by simp [go_sem, hf1]
  have c1_0_1 : w1.cell? ⟨w.heap.size, 1, none⟩ = some (.int .i64 (ah)) := by simp [go_sem, hc1]
  have r1_0_1 : w1.frozen? ⟨w.heap.size, 1, none⟩ = false := by simp [go_sem, hf1]
  have c1_1_0 : w1.cell? ⟨w.heap.size + 1, 0, none⟩ = some (.int .i64 (bl)) := by simp [go_sem, hc1]
  have r1_1_0 : w1.frozen? ⟨w.heap.size + 1, 0, none⟩ = false := by simp [go_sem, hf1]
  have c1_1_1 : w1.cell? ⟨w.heap.size + 1, 1, none⟩ = some (.int .i64 (bh)) := by simp [go_sem, hc1]
  have r1_1_1 : w1.frozen? ⟨w.heap.size + 1, 1, none⟩ = false := by simp [go_sem, hf1]
  have c1_2_0 : w1.cell? ⟨w.heap.size + 1 + 1, 0, none⟩ = some (.int .i64 (0)) := by simp [go_sem, hc1]
  have r1_2_0 : w1.frozen? ⟨w.heap.size + 1 + 1, 0, none⟩ = false := by simp [go_sem, hf1]
  have c1_2_1 : w1.cell? ⟨w.heap.size + 1 + 1, 1, none⟩ = some (.int .i64 (0)) := by simp [go_sem, hc1]
  have r1_2_1 : w1.frozen? ⟨w.heap.size + 1 + 1, 1, none⟩ = false := by simp [go_sem, hf1]
  have c1_3_0 : w1.cell? ⟨w.heap.size + 1 + 1 + 1, 0, none⟩ = some (.int .i64 (0)) := by simp [go_sem, hc1]
  have r1_3_0 : w1.frozen? ⟨w.heap.size + 1 + 1 + 1, 0, none⟩ = false := by simp [go_sem, hf1]
  have c1_3_1 : w1.cell? ⟨w.heap.size + 1 + 1 + 1, 1, none⟩ = some (.int .i64 (0)) := by simp [go_sem, hc1]
  have r1_3_1 : w1.frozen? ⟨w.heap.size + 1 + 1 + 1, 1, none⟩ = false := by simp [go_sem, hf1]
  clear hc1 hf1
  go_wp2_with fail
  go_region
  go_wp2_with fail
  exact bodyPost_ret (v := .tuple #[.agg #[.int .i64 (pl), .int .i64 (ph)], .agg #[.int .i64 (ol), .int .i64 (oh)], .bool ob]) (by simp [results, Tryz.results146, go_sem, c1_0_0, c1_0_1, c1_1_0, c1_1_1, c1_2_0, c1_2_1, c1_3_0, c1_3_1, z10, z11, z12, z13]) rfl ⟨by simp [bswap], (by repeat' (first | with_reducible (first | exact HW1.out | apply bR | apply bD | apply bN | apply bA | apply bS) | (simp; done) | (simp; omega) | omega))⟩
 by_cases h6 : c = 24
 ·subst h6
  generalize ho : border ⟨bl, bh⟩ ⟨al, ah⟩ true = o
  have e : bnarrow 24 ⟨al, ah⟩ ⟨bl, bh⟩ = bswap o := by rw [← ho]; rfl
  rw [e]
  have HO := Lib.hid ho
  clear e ho
  obtain ⟨⟨ol, oh⟩, ⟨pl, ph⟩, ob⟩ := o
  go_enter Tryz.func146, Tryz.ntmps146
  go_wp2_with fail
  refine (order_any _ _ _ _ _ IA.out IB2.out _).mono ?_
  rw [HO.out]
  (rintro e w1 ⟨rfl, hb⟩; obtain ⟨hc1, hf1⟩ := bcell hb; have hz1 := hb.size; (try simp at hz1); have HW1 := Lib.hid (show Below w.heap.size w w1 from Below.trans (by repeat' (first | with_reducible (first | exact HW0.out | apply bR | apply bD | apply bN | apply bA | apply bS) | (simp; done) | (simp; omega) | omega)) (hb.mono (by first | omega | simp <;> omega))); clear hb; (try have z10 : w.heap.size < w1.heap.size := by omega); (try have z11 : w.heap.size + 1 < w1.heap.size := by omega); (try have z12 : w.heap.size + 1 + 1 < w1.heap.size := by omega); (try have z13 : w.heap.size + 1 + 1 + 1 < w1.heap.size := by omega); (try have z14 : w.heap.size + 1 + 1 + 1 + 1 < w1.heap.size := by omega))
  have c1_0_0 : w1.cell? ⟨w.heap.size, 0, none⟩ = some (.int .i64 (al)) := by simp [go_sem, hc1]
  have r1_0_0 : w1.frozen? ⟨w.heap.size, 0, none⟩ = false := by simp [go_sem, hf1]
  have c1_0_1 : w1.cell? ⟨w.heap.size, 1, none⟩ = some (.int .i64 (ah)) := by simp [go_sem, hc1]
  have r1_0_1 : w1.frozen? ⟨w.heap.size, 1, none⟩ = false := by simp [go_sem, hf1]
  have c1_1_0 : w1.cell? ⟨w.heap.size + 1, 0, none⟩ = some (.int .i64 (bl)) := by simp [go_sem, hc1]
  have r1_1_0 : w1.frozen? ⟨w.heap.size + 1, 0, none⟩ = false := by simp [go_sem, hf1]
  have c1_1_1 : w1.cell? ⟨w.heap.size + 1, 1, none⟩ = some (.int .i64 (bh)) := by simp [go_sem, hc1]
  have r1_1_1 : w1.frozen? ⟨w.heap.size + 1, 1, none⟩ = false := by simp [go_sem, hf1]
  have c1_2_0 : w1.cell? ⟨w.heap.size + 1 + 1, 0, none⟩ = some (.int .i64 (0)) := by simp [go_sem, hc1]
  have r1_2_0 : w1.frozen? ⟨w.heap.size + 1 + 1, 0, none⟩ = false := by simp [go_sem, hf1]
  have c1_2_1 : w1.cell? ⟨w.heap.size + 1 + 1, 1, none⟩ = some (.int .i64 (0)) := by simp [go_sem, hc1]
  have r1_2_1 : w1.frozen? ⟨w.heap.size + 1 + 1, 1, none⟩ = false := by simp [go_sem, hf1]
  have c1_3_0 : w1.cell? ⟨w.heap.size + 1 + 1 + 1, 0, none⟩ = some (.int .i64 (0)) := by simp [go_sem, hc1]
  have r1_3_0 : w1.frozen? ⟨w.heap.size + 1 + 1 + 1, 0, none⟩ = false := by simp [go_sem, hf1]
  have c1_3_1 : w1.cell? ⟨w.heap.size + 1 + 1 + 1, 1, none⟩ = some (.int .i64 (0)) := by simp [go_sem, hc1]
  have r1_3_1 : w1.frozen? ⟨w.heap.size + 1 + 1 + 1, 1, none⟩ = false := by simp [go_sem, hf1]
  clear hc1 hf1
  go_wp2_with fail
  go_region
  go_wp2_with fail
  exact bodyPost_ret (v := .tuple #[.agg #[.int .i64 (pl), .int .i64 (ph)], .agg #[.int .i64 (ol), .int .i64 (oh)], .bool ob]) (by simp [results, Tryz.results146, go_sem, c1_0_0, c1_0_1, c1_1_0, c1_1_1, c1_2_0, c1_2_1, c1_3_0, c1_3_1, z10, z11, z12, z13]) rfl ⟨by simp [bswap], (by repeat' (first | with_reducible (first | exact HW1.out | apply bR | apply bD | apply bN | apply bA | apply bS) | (simp; done) | (simp; omega) | omega))⟩
 by_cases h7 : c = 19
 ·subst h7
  generalize ho : bunsigned ⟨al, ah⟩ ⟨bl, bh⟩ false = o
  have e : bnarrow 19 ⟨al, ah⟩ ⟨bl, bh⟩ = o := by rw [← ho]; rfl
  rw [e]
  have HO := Lib.hid ho
  clear e ho
  obtain ⟨⟨ol, oh⟩, ⟨pl, ph⟩, ob⟩ := o
  go_enter Tryz.func146, Tryz.ntmps146
  go_wp2_with fail
  refine (unsigned_any _ _ _ _ _ IA.out IA2.out IB.out IB2.out _).mono ?_
  rw [HO.out]
  (rintro e w1 ⟨rfl, hb⟩; obtain ⟨hc1, hf1⟩ := bcell hb; have hz1 := hb.size; (try simp at hz1); have HW1 := Lib.hid (show Below w.heap.size w w1 from Below.trans (by repeat' (first | with_reducible (first | exact HW0.out | apply bR | apply bD | apply bN | apply bA | apply bS) | (simp; done) | (simp; omega) | omega)) (hb.mono (by first | omega | simp <;> omega))); clear hb; (try have z10 : w.heap.size < w1.heap.size := by omega); (try have z11 : w.heap.size + 1 < w1.heap.size := by omega); (try have z12 : w.heap.size + 1 + 1 < w1.heap.size := by omega); (try have z13 : w.heap.size + 1 + 1 + 1 < w1.heap.size := by omega); (try have z14 : w.heap.size + 1 + 1 + 1 + 1 < w1.heap.size := by omega))
  have c1_0_0 : w1.cell? ⟨w.heap.size, 0, none⟩ = some (.int .i64 (al)) := by simp [go_sem, hc1]
  have r1_0_0 : w1.frozen? ⟨w.heap.size, 0, none⟩ = false := by simp [go_sem, hf1]
  have c1_0_1 : w1.cell? ⟨w.heap.size, 1, none⟩ = some (.int .i64 (ah)) := by simp [go_sem, hc1]
  have r1_0_1 : w1.frozen? ⟨w.heap.size, 1, none⟩ = false := by simp [go_sem, hf1]
  have c1_1_0 : w1.cell? ⟨w.heap.size + 1, 0, none⟩ = some (.int .i64 (bl)) := by simp [go_sem, hc1]
  have r1_1_0 : w1.frozen? ⟨w.heap.size + 1, 0, none⟩ = false := by simp [go_sem, hf1]
  have c1_1_1 : w1.cell? ⟨w.heap.size + 1, 1, none⟩ = some (.int .i64 (bh)) := by simp [go_sem, hc1]
  have r1_1_1 : w1.frozen? ⟨w.heap.size + 1, 1, none⟩ = false := by simp [go_sem, hf1]
  have c1_2_0 : w1.cell? ⟨w.heap.size + 1 + 1, 0, none⟩ = some (.int .i64 (0)) := by simp [go_sem, hc1]
  have r1_2_0 : w1.frozen? ⟨w.heap.size + 1 + 1, 0, none⟩ = false := by simp [go_sem, hf1]
  have c1_2_1 : w1.cell? ⟨w.heap.size + 1 + 1, 1, none⟩ = some (.int .i64 (0)) := by simp [go_sem, hc1]
  have r1_2_1 : w1.frozen? ⟨w.heap.size + 1 + 1, 1, none⟩ = false := by simp [go_sem, hf1]
  have c1_3_0 : w1.cell? ⟨w.heap.size + 1 + 1 + 1, 0, none⟩ = some (.int .i64 (0)) := by simp [go_sem, hc1]
  have r1_3_0 : w1.frozen? ⟨w.heap.size + 1 + 1 + 1, 0, none⟩ = false := by simp [go_sem, hf1]
  have c1_3_1 : w1.cell? ⟨w.heap.size + 1 + 1 + 1, 1, none⟩ = some (.int .i64 (0)) := by simp [go_sem, hc1]
  have r1_3_1 : w1.frozen? ⟨w.heap.size + 1 + 1 + 1, 1, none⟩ = false := by simp [go_sem, hf1]
  clear hc1 hf1
  go_wp2_with fail
  exact bodyPost_ret (v := .tuple #[.agg #[.int .i64 (ol), .int .i64 (oh)], .agg #[.int .i64 (pl), .int .i64 (ph)], .bool ob]) (by simp [results, Tryz.results146, go_sem, c1_0_0, c1_0_1, c1_1_0, c1_1_1, c1_2_0, c1_2_1, c1_3_0, c1_3_1]) rfl ⟨rfl, (by repeat' (first | with_reducible (first | exact HW1.out | apply bR | apply bD | apply bN | apply bA | apply bS) | (simp; done) | (simp; omega) | omega))⟩
 by_cases h8 : c = 20
 ·subst h8
  generalize ho : bunsigned ⟨al, ah⟩ ⟨bl, bh⟩ true = o
  have e : bnarrow 20 ⟨al, ah⟩ ⟨bl, bh⟩ = o := by rw [← ho]; rfl
  rw [e]
  have HO := Lib.hid ho
  clear e ho
  obtain ⟨⟨ol, oh⟩, ⟨pl, ph⟩, ob⟩ := o
  go_enter Tryz.func146, Tryz.ntmps146
  go_wp2_with fail
  refine (unsigned_any _ _ _ _ _ IA.out IA2.out IB.out IB2.out _).mono ?_
  rw [HO.out]
  (rintro e w1 ⟨rfl, hb⟩; obtain ⟨hc1, hf1⟩ := bcell hb; have hz1 := hb.size; (try simp at hz1); have HW1 := Lib.hid (show Below w.heap.size w w1 from Below.trans (by repeat' (first | with_reducible (first | exact HW0.out | apply bR | apply bD | apply bN | apply bA | apply bS) | (simp; done) | (simp; omega) | omega)) (hb.mono (by first | omega | simp <;> omega))); clear hb; (try have z10 : w.heap.size < w1.heap.size := by omega); (try have z11 : w.heap.size + 1 < w1.heap.size := by omega); (try have z12 : w.heap.size + 1 + 1 < w1.heap.size := by omega); (try have z13 : w.heap.size + 1 + 1 + 1 < w1.heap.size := by omega); (try have z14 : w.heap.size + 1 + 1 + 1 + 1 < w1.heap.size := by omega))
  have c1_0_0 : w1.cell? ⟨w.heap.size, 0, none⟩ = some (.int .i64 (al)) := by simp [go_sem, hc1]
  have r1_0_0 : w1.frozen? ⟨w.heap.size, 0, none⟩ = false := by simp [go_sem, hf1]
  have c1_0_1 : w1.cell? ⟨w.heap.size, 1, none⟩ = some (.int .i64 (ah)) := by simp [go_sem, hc1]
  have r1_0_1 : w1.frozen? ⟨w.heap.size, 1, none⟩ = false := by simp [go_sem, hf1]
  have c1_1_0 : w1.cell? ⟨w.heap.size + 1, 0, none⟩ = some (.int .i64 (bl)) := by simp [go_sem, hc1]
  have r1_1_0 : w1.frozen? ⟨w.heap.size + 1, 0, none⟩ = false := by simp [go_sem, hf1]
  have c1_1_1 : w1.cell? ⟨w.heap.size + 1, 1, none⟩ = some (.int .i64 (bh)) := by simp [go_sem, hc1]
  have r1_1_1 : w1.frozen? ⟨w.heap.size + 1, 1, none⟩ = false := by simp [go_sem, hf1]
  have c1_2_0 : w1.cell? ⟨w.heap.size + 1 + 1, 0, none⟩ = some (.int .i64 (0)) := by simp [go_sem, hc1]
  have r1_2_0 : w1.frozen? ⟨w.heap.size + 1 + 1, 0, none⟩ = false := by simp [go_sem, hf1]
  have c1_2_1 : w1.cell? ⟨w.heap.size + 1 + 1, 1, none⟩ = some (.int .i64 (0)) := by simp [go_sem, hc1]
  have r1_2_1 : w1.frozen? ⟨w.heap.size + 1 + 1, 1, none⟩ = false := by simp [go_sem, hf1]
  have c1_3_0 : w1.cell? ⟨w.heap.size + 1 + 1 + 1, 0, none⟩ = some (.int .i64 (0)) := by simp [go_sem, hc1]
  have r1_3_0 : w1.frozen? ⟨w.heap.size + 1 + 1 + 1, 0, none⟩ = false := by simp [go_sem, hf1]
  have c1_3_1 : w1.cell? ⟨w.heap.size + 1 + 1 + 1, 1, none⟩ = some (.int .i64 (0)) := by simp [go_sem, hc1]
  have r1_3_1 : w1.frozen? ⟨w.heap.size + 1 + 1 + 1, 1, none⟩ = false := by simp [go_sem, hf1]
  clear hc1 hf1
  go_wp2_with fail
  exact bodyPost_ret (v := .tuple #[.agg #[.int .i64 (ol), .int .i64 (oh)], .agg #[.int .i64 (pl), .int .i64 (ph)], .bool ob]) (by simp [results, Tryz.results146, go_sem, c1_0_0, c1_0_1, c1_1_0, c1_1_1, c1_2_0, c1_2_1, c1_3_0, c1_3_1]) rfl ⟨rfl, (by repeat' (first | with_reducible (first | exact HW1.out | apply bR | apply bD | apply bN | apply bA | apply bS) | (simp; done) | (simp; omega) | omega))⟩
 by_cases h9 : c = 17
 ·subst h9
  generalize ho : bunsigned ⟨bl, bh⟩ ⟨al, ah⟩ false = o
  have e : bnarrow 17 ⟨al, ah⟩ ⟨bl, bh⟩ = bswap o := by rw [← ho]; rfl
  rw [e]
  have HO := Lib.hid ho
  clear e ho
  obtain ⟨⟨ol, oh⟩, ⟨pl, ph⟩, ob⟩ := o
  go_enter Tryz.func146, Tryz.ntmps146
  go_wp2_with fail
  refine (unsigned_any _ _ _ _ _ IB.out IB2.out IA.out IA2.out _).mono ?_
  rw [HO.out]
  (rintro e w1 ⟨rfl, hb⟩; obtain ⟨hc1, hf1⟩ := bcell hb; have hz1 := hb.size; (try simp at hz1); have HW1 := Lib.hid (show Below w.heap.size w w1 from Below.trans (by repeat' (first | with_reducible (first | exact HW0.out | apply bR | apply bD | apply bN | apply bA | apply bS) | (simp; done) | (simp; omega) | omega)) (hb.mono (by first | omega | simp <;> omega))); clear hb; (try have z10 : w.heap.size < w1.heap.size := by omega); (try have z11 : w.heap.size + 1 < w1.heap.size := by omega); (try have z12 : w.heap.size + 1 + 1 < w1.heap.size := by omega); (try have z13 : w.heap.size + 1 + 1 + 1 < w1.heap.size := by omega); (try have z14 : w.heap.size + 1 + 1 + 1 + 1 < w1.heap.size := by omega))
  have c1_0_0 : w1.cell? ⟨w.heap.size, 0, none⟩ = some (.int .i64 (al)) := by simp [go_sem, hc1]
  have r1_0_0 : w1.frozen? ⟨w.heap.size, 0, none⟩ = false := by simp [go_sem, hf1]
  have c1_0_1 : w1.cell? ⟨w.heap.size, 1, none⟩ = some (.int .i64 (ah)) := by simp [go_sem, hc1]
  have r1_0_1 : w1.frozen? ⟨w.heap.size, 1, none⟩ = false := by simp [go_sem, hf1]
  have c1_1_0 : w1.cell? ⟨w.heap.size + 1, 0, none⟩ = some (.int .i64 (bl)) := by simp [go_sem, hc1]
  have r1_1_0 : w1.frozen? ⟨w.heap.size + 1, 0, none⟩ = false := by simp [go_sem, hf1]
  have c1_1_1 : w1.cell? ⟨w.heap.size + 1, 1, none⟩ = some (.int .i64 (bh)) := by simp [go_sem, hc1]
  have r1_1_1 : w1.frozen? ⟨w.heap.size + 1, 1, none⟩ = false := by simp [go_sem, hf1]
  have c1_2_0 : w1.cell? ⟨w.heap.size + 1 + 1, 0, none⟩ = some (.int .i64 (0)) := by simp [go_sem, hc1]
  have r1_2_0 : w1.frozen? ⟨w.heap.size + 1 + 1, 0, none⟩ = false := by simp [go_sem, hf1]
  have c1_2_1 : w1.cell? ⟨w.heap.size + 1 + 1, 1, none⟩ = some (.int .i64 (0)) := by simp [go_sem, hc1]
  have r1_2_1 : w1.frozen? ⟨w.heap.size + 1 + 1, 1, none⟩ = false := by simp [go_sem, hf1]
  have c1_3_0 : w1.cell? ⟨w.heap.size + 1 + 1 + 1, 0, none⟩ = some (.int .i64 (0)) := by simp [go_sem, hc1]
  have r1_3_0 : w1.frozen? ⟨w.heap.size + 1 + 1 + 1, 0, none⟩ = false := by simp [go_sem, hf1]
  have c1_3_1 : w1.cell? ⟨w.heap.size + 1 + 1 + 1, 1, none⟩ = some (.int .i64 (0)) := by simp [go_sem, hc1]
  have r1_3_1 : w1.frozen? ⟨w.heap.size + 1 + 1 + 1, 1, none⟩ = false := by simp [go_sem, hf1]
  clear hc1 hf1
  go_wp2_with fail
  go_region
  go_wp2_with fail
  exact bodyPost_ret (v := .tuple #[.agg #[.int .i64 (pl), .int .i64 (ph)], .agg #[.int .i64 (ol), .int .i64 (oh)], .bool ob]) (by simp [results, Tryz.results146, go_sem, c1_0_0, c1_0_1, c1_1_0, c1_1_1, c1_2_0, c1_2_1, c1_3_0, c1_3_1, z10, z11, z12, z13]) rfl ⟨by simp [bswap], (by repeat' (first | with_reducible (first | exact HW1.out | apply bR | apply bD | apply bN | apply bA | apply bS) | (simp; done) | (simp; omega) | omega))⟩
 by_cases h10 : c = 18
 ·subst h10
  generalize ho : bunsigned ⟨bl, bh⟩ ⟨al, ah⟩ true = o
  have e : bnarrow 18 ⟨al, ah⟩ ⟨bl, bh⟩ = bswap o := by rw [← ho]; rfl
  rw [e]
  have HO := Lib.hid ho
  clear e ho
  obtain ⟨⟨ol, oh⟩, ⟨pl, ph⟩, ob⟩ := o
  go_enter Tryz.func146, Tryz.ntmps146
  go_wp2_with fail
  refine (unsigned_any _ _ _ _ _ IB.out IB2.out IA.out IA2.out _).mono ?_
  rw [HO.out]
  (rintro e w1 ⟨rfl, hb⟩; obtain ⟨hc1, hf1⟩ := bcell hb; have hz1 := hb.size; (try simp at hz1); have HW1 := Lib.hid (show Below w.heap.size w w1 from Below.trans (by repeat' (first | with_reducible (first | exact HW0.out | apply bR | apply bD | apply bN | apply bA | apply bS) | (simp; done) | (simp; omega) | omega)) (hb.mono (by first | omega | simp <;> omega))); clear hb; (try have z10 : w.heap.size < w1.heap.size := by omega); (try have z11 : w.heap.size + 1 < w1.heap.size := by omega); (try have z12 : w.heap.size + 1 + 1 < w1.heap.size := by omega); (try have z13 : w.heap.size + 1 + 1 + 1 < w1.heap.size := by omega); (try have z14 : w.heap.size + 1 + 1 + 1 + 1 < w1.heap.size := by omega))
  have c1_0_0 : w1.cell? ⟨w.heap.size, 0, none⟩ = some (.int .i64 (al)) := by simp [go_sem, hc1]
  have r1_0_0 : w1.frozen? ⟨w.heap.size, 0, none⟩ = false := by simp [go_sem, hf1]
  have c1_0_1 : w1.cell? ⟨w.heap.size, 1, none⟩ = some (.int .i64 (ah)) := by simp [go_sem, hc1]
  have r1_0_1 : w1.frozen? ⟨w.heap.size, 1, none⟩ = false := by simp [go_sem, hf1]
  have c1_1_0 : w1.cell? ⟨w.heap.size + 1, 0, none⟩ = some (.int .i64 (bl)) := by simp [go_sem, hc1]
  have r1_1_0 : w1.frozen? ⟨w.heap.size + 1, 0, none⟩ = false := by simp [go_sem, hf1]
  have c1_1_1 : w1.cell? ⟨w.heap.size + 1, 1, none⟩ = some (.int .i64 (bh)) := by simp [go_sem, hc1]
  have r1_1_1 : w1.frozen? ⟨w.heap.size + 1, 1, none⟩ = false := by simp [go_sem, hf1]
  have c1_2_0 : w1.cell? ⟨w.heap.size + 1 + 1, 0, none⟩ = some (.int .i64 (0)) := by simp [go_sem, hc1]
  have r1_2_0 : w1.frozen? ⟨w.heap.size + 1 + 1, 0, none⟩ = false := by simp [go_sem, hf1]
  have c1_2_1 : w1.cell? ⟨w.heap.size + 1 + 1, 1, none⟩ = some (.int .i64 (0)) := by simp [go_sem, hc1]
  have r1_2_1 : w1.frozen? ⟨w.heap.size + 1 + 1, 1, none⟩ = false := by simp [go_sem, hf1]
  have c1_3_0 : w1.cell? ⟨w.heap.size + 1 + 1 + 1, 0, none⟩ = some (.int .i64 (0)) := by simp [go_sem, hc1]
  have r1_3_0 : w1.frozen? ⟨w.heap.size + 1 + 1 + 1, 0, none⟩ = false := by simp [go_sem, hf1]
  have c1_3_1 : w1.cell? ⟨w.heap.size + 1 + 1 + 1, 1, none⟩ = some (.int .i64 (0)) := by simp [go_sem, hc1]
  have r1_3_1 : w1.frozen? ⟨w.heap.size + 1 + 1 + 1, 1, none⟩ = false := by simp [go_sem, hf1]
  clear hc1 hf1
  go_wp2_with fail
  go_region
  go_wp2_with fail
  exact bodyPost_ret (v := .tuple #[.agg #[.int .i64 (pl), .int .i64 (ph)], .agg #[.int .i64 (ol), .int .i64 (oh)], .bool ob]) (by simp [results, Tryz.results146, go_sem, c1_0_0, c1_0_1, c1_1_0, c1_1_1, c1_2_0, c1_2_1, c1_3_0, c1_3_1, z10, z11, z12, z13]) rfl ⟨by simp [bswap], (by repeat' (first | with_reducible (first | exact HW1.out | apply bR | apply bD | apply bN | apply bA | apply bS) | (simp; done) | (simp; omega) | omega))⟩
 have e : bnarrow c ⟨al, ah⟩ ⟨bl, bh⟩ = (⟨al, ah⟩, ⟨bl, bh⟩, true) := by
  unfold bnarrow
  simp only [h1, h2, h3, h4, h5, h6, h7, h8, h9, h10, or_self, if_false]
 rw [e]
 clear e
 have t1 : (c == 15) = false := by simp [h1]
 have t2 : (c == 16) = false := by simp [h2]
 have t3 : (c == 21) = false := by simp [h3]
 have t4 : (c == 22) = false := by simp [h4]
 have t5 : (c == 23) = false := by simp [h5]
 have t6 : (c == 24) = false := by simp [h6]
 have t7 : (c == 19) = false := by simp [h7]
 have t8 : (c == 20) = false := by simp [h8]
 have t9 : (c == 17) = false := by simp [h9]
 have t10 : (c == 18) = false := by simp [h10]
 clear h1 h2 h3 h4 h5 h6 h7 h8 h9 h10
 go_enter Tryz.func146, Tryz.ntmps146
 go_wp2_with fail
 go_region
 go_wp2_with fail
 exact bodyPost_ret (v := .tuple #[.agg #[.int .i64 (al), .int .i64 (ah)], .agg #[.int .i64 (bl), .int .i64 (bh)], .bool true]) (by simp [results, Tryz.results146, go_sem]) rfl ⟨rfl, (by repeat' (first | with_reducible (first | exact HW0.out | apply bR | apply bD | apply bN | apply bA | apply bS) | (simp; done) | (simp; omega) | omega))⟩
end Go.Proofs.YtpdlmbbgioenoaaGreatDoor.W
