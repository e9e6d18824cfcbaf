/- The walk of the reference's Narrow: it leaves of two bounds what package bound leaves. Conditions: the ends are int64's in order. -/
import Derived.Test.YtfpoicdfkjbknaaDoorWalkRefB
import Derived.RegionTactic
import Derived.Deep.RegionHeld3
namespace Go.Proofs.YtfpoicdfkjbknaaDoor.W
open Go.RowKit Go.Proofs.YtfpoicdfkjbknaaDoor.P
set_option linter.unusedSimpArgs false
set_option linter.unusedVariables false

theorem below5 (w : World) (o1 o2 o3 o4 o5 : Obj) : Below w.heap.size w (((((w.alloc o1).alloc o2).alloc o3).alloc o4).alloc o5).drew := by
 repeat' (first | with_reducible exact Below.refl _ _ | with_reducible refine Below.drew ?_ | with_reducible refine Below.alloc ?_ ?_ _ | (simp; done) | (simp; omega))

set_option maxRecDepth 100000 in
set_option maxHeartbeats 4000000 in
theorem RefN_15 (al ah bl bh : Int) (ia : In64 al) (ia2 : In64 ah) (ib : In64 bl) (ib2 : In64 bh) (w : World) :
  Calls Tryd.prog 78 #[.int .i64 15, .agg #[.int .i64 al, .int .i64 ah], .agg #[.int .i64 bl, .int .i64 bh]] w fun e w' => e = .returned (.tuple #[.agg #[.int .i64 (bnarrow 15 ⟨al, ah⟩ ⟨bl, bh⟩).1.lo, .int .i64 (bnarrow 15 ⟨al, ah⟩ ⟨bl, bh⟩).1.hi], .agg #[.int .i64 (bnarrow 15 ⟨al, ah⟩ ⟨bl, bh⟩).2.1.lo, .int .i64 (bnarrow 15 ⟨al, ah⟩ ⟨bl, bh⟩).2.1.hi], .bool (bnarrow 15 ⟨al, ah⟩ ⟨bl, bh⟩).2.2]) ∧ Below w.heap.size w w' := by
 have HW0 := Lib.hid (Below.refl w.heap.size w)
 have e : bnarrow 15 ⟨al, ah⟩ ⟨bl, bh⟩ = ((bmeet ⟨al, ah⟩ ⟨bl, bh⟩).1, (bmeet ⟨al, ah⟩ ⟨bl, bh⟩).1, (bmeet ⟨al, ah⟩ ⟨bl, bh⟩).2) := rfl
 rw [e]
 clear ia ia2 ib ib2 e
 generalize hm : bmeet ⟨al, ah⟩ ⟨bl, bh⟩ = m
 have HM := Lib.hid hm
 clear hm
 obtain ⟨⟨ml, mh⟩, mb⟩ := m
 go_enter Tryd.func78, Tryd.ntmps78
 go_wp2_with fail
 refine (RefMeet_any _ _ _ _ _).mono ?_
 rw [HM.out]
 (rintro e w1 ⟨rfl, hb⟩; obtain ⟨hc1, hf1⟩ := bcell hb; have hz1 := hb.size; (try simp at hz1); have HW1 := Lib.hid (show Below w.heap.size w w1 from Below.trans (by repeat' (first | with_reducible (first | exact HW0.out | apply bR | apply bD | apply bN | apply bA | apply bS) | (simp; done) | (simp; omega) | omega)) (hb.mono (by first | omega | simp <;> omega))); clear hb; (try have z10 : w.heap.size < w1.heap.size := by omega); (try have z11 : w.heap.size + 1 < w1.heap.size := by omega); (try have z12 : w.heap.size + 1 + 1 < w1.heap.size := by omega); (try have z13 : w.heap.size + 1 + 1 + 1 < w1.heap.size := by omega); (try have z14 : w.heap.size + 1 + 1 + 1 + 1 < w1.heap.size := by omega); (try have z15 : w.heap.size + 1 + 1 + 1 + 1 + 1 < w1.heap.size := by omega))
 have y1a : w.heap.size < w1.heap.size := (by omega)
 have c1a_0 : w1.cell? ⟨w.heap.size, 0, none⟩ = some (.int .i64 (al)) := by rw [hc1 _ _ (by first | omega | simp <;> omega)]; first | done | (simp [go_sem]; done) | assumption
 have r1a_0 : w1.frozen? ⟨w.heap.size, 0, none⟩ = false := by rw [hf1 _ _ (by first | omega | simp <;> omega)]; first | done | (simp [go_sem]; done) | assumption
 have c1a_1 : w1.cell? ⟨w.heap.size, 1, none⟩ = some (.int .i64 (ah)) := by rw [hc1 _ _ (by first | omega | simp <;> omega)]; first | done | (simp [go_sem]; done) | assumption
 have r1a_1 : w1.frozen? ⟨w.heap.size, 1, none⟩ = false := by rw [hf1 _ _ (by first | omega | simp <;> omega)]; first | done | (simp [go_sem]; done) | assumption
 have y1b : w.heap.size + 1 < w1.heap.size := (by omega)
 have c1b_0 : w1.cell? ⟨w.heap.size + 1, 0, none⟩ = some (.int .i64 (bl)) := by rw [hc1 _ _ (by first | omega | simp <;> omega)]; first | done | (simp [go_sem]; done) | assumption
 have c1b_1 : w1.cell? ⟨w.heap.size + 1, 1, none⟩ = some (.int .i64 (bh)) := by rw [hc1 _ _ (by first | omega | simp <;> omega)]; first | done | (simp [go_sem]; done) | assumption
 have y1r : w.heap.size + 1 + 1 < w1.heap.size := (by omega)
 have c1r_0 : w1.cell? ⟨w.heap.size + 1 + 1, 0, none⟩ = some (.int .i64 (0)) := by rw [hc1 _ _ (by first | omega | simp <;> omega)]; first | done | (simp [go_sem]; done) | assumption
 have r1r_0 : w1.frozen? ⟨w.heap.size + 1 + 1, 0, none⟩ = false := by rw [hf1 _ _ (by first | omega | simp <;> omega)]; first | done | (simp [go_sem]; done) | assumption
 have c1r_1 : w1.cell? ⟨w.heap.size + 1 + 1, 1, none⟩ = some (.int .i64 (0)) := by rw [hc1 _ _ (by first | omega | simp <;> omega)]; first | done | (simp [go_sem]; done) | assumption
 have r1r_1 : w1.frozen? ⟨w.heap.size + 1 + 1, 1, none⟩ = false := by rw [hf1 _ _ (by first | omega | simp <;> omega)]; first | done | (simp [go_sem]; done) | assumption
 have y1s : w.heap.size + 1 + 1 + 1 < w1.heap.size := (by omega)
 have c1s_0 : w1.cell? ⟨w.heap.size + 1 + 1 + 1, 0, none⟩ = some (.int .i64 (0)) := by rw [hc1 _ _ (by first | omega | simp <;> omega)]; first | done | (simp [go_sem]; done) | assumption
 have r1s_0 : w1.frozen? ⟨w.heap.size + 1 + 1 + 1, 0, none⟩ = false := by rw [hf1 _ _ (by first | omega | simp <;> omega)]; first | done | (simp [go_sem]; done) | assumption
 have c1s_1 : w1.cell? ⟨w.heap.size + 1 + 1 + 1, 1, none⟩ = some (.int .i64 (0)) := by rw [hc1 _ _ (by first | omega | simp <;> omega)]; first | done | (simp [go_sem]; done) | assumption
 have r1s_1 : w1.frozen? ⟨w.heap.size + 1 + 1 + 1, 1, none⟩ = false := by rw [hf1 _ _ (by first | omega | simp <;> omega)]; first | done | (simp [go_sem]; done) | assumption
 have y1n : w.heap.size + 1 + 1 + 1 + 1 < w1.heap.size := (by omega)
 have c1n_0 : w1.cell? ⟨w.heap.size + 1 + 1 + 1 + 1, 0, none⟩ = some (.int .i64 (0)) := by rw [hc1 _ _ (by first | omega | simp <;> omega)]; first | done | (simp [go_sem]; done) | assumption
 have c1n_1 : w1.cell? ⟨w.heap.size + 1 + 1 + 1 + 1, 1, none⟩ = some (.int .i64 (0)) := by rw [hc1 _ _ (by first | omega | simp <;> omega)]; first | done | (simp [go_sem]; done) | assumption
 clear hc1 hf1
 go_wp2_with fail
 go_region
 go_wp2_with fail
 exact bodyPost_ret (v := .tuple #[.agg #[.int .i64 (ml), .int .i64 (mh)], .agg #[.int .i64 (ml), .int .i64 (mh)], .bool (mb)]) (by simp [results, Tryd.results78, go_sem, y1a, c1a_0, c1a_1, y1b, c1b_0, c1b_1, y1r, c1r_0, c1r_1, y1s, c1s_0, c1s_1, y1n, c1n_0, c1n_1]) rfl ⟨by first | rfl | (simp [bnil, bswap]; done), (by repeat' (first | with_reducible (first | exact HW1.out | apply bR | apply bD | apply bN | apply bA | apply bS) | (simp; done) | (simp; omega) | omega))⟩

set_option maxRecDepth 100000 in
set_option maxHeartbeats 4000000 in
theorem RefN_21 (al ah bl bh : Int) (ia : In64 al) (ia2 : In64 ah) (ib : In64 bl) (ib2 : In64 bh) (w : World) :
  Calls Tryd.prog 78 #[.int .i64 21, .agg #[.int .i64 al, .int .i64 ah], .agg #[.int .i64 bl, .int .i64 bh]] w fun e w' => e = .returned (.tuple #[.agg #[.int .i64 (bnarrow 21 ⟨al, ah⟩ ⟨bl, bh⟩).1.lo, .int .i64 (bnarrow 21 ⟨al, ah⟩ ⟨bl, bh⟩).1.hi], .agg #[.int .i64 (bnarrow 21 ⟨al, ah⟩ ⟨bl, bh⟩).2.1.lo, .int .i64 (bnarrow 21 ⟨al, ah⟩ ⟨bl, bh⟩).2.1.hi], .bool (bnarrow 21 ⟨al, ah⟩ ⟨bl, bh⟩).2.2]) ∧ Below w.heap.size w w' := by
 have HW0 := Lib.hid (Below.refl w.heap.size w)
 have e0 : bnarrow 21 ⟨al, ah⟩ ⟨bl, bh⟩ = border ⟨al, ah⟩ ⟨bl, bh⟩ false := rfl
 rw [e0]
 clear e0
 by_cases hx : bl = 9223372036854775807 ∨ ah = -9223372036854775808
 ·have e : border ⟨al, ah⟩ ⟨bl, bh⟩ false = (bnil, bnil, false) := by unfold border; rw [if_pos ⟨rfl, hx⟩]
  rw [e]
  clear e
  by_cases hy : bl = 9223372036854775807
  ·have b5 : (bl == 9223372036854775807) = true := by simp [hy]
   clear hx hy
   clear ia ia2 ib ib2
   go_enter Tryd.func78, Tryd.ntmps78
   go_wp2_with fail
   go_quiet (fail)
   go_wp2_with fail
   go_region
   go_wp2_with fail
   exact bodyPost_ret (v := .tuple #[.agg #[.int .i64 (0), .int .i64 (0)], .agg #[.int .i64 (0), .int .i64 (0)], .bool (false)]) (by simp [results, Tryd.results78, go_sem]) rfl ⟨by first | rfl | (simp [bnil, bswap]; done), (by repeat' (first | with_reducible (first | exact HW0.out | apply bR | apply bD | apply bN | apply bA | apply bS) | (simp; done) | (simp; omega) | omega))⟩
  ·have b5 : (bl == 9223372036854775807) = false := by simp [hy]
   have b6 : (ah == -9223372036854775808) = true := by simp; omega
   clear hx hy
   clear ia ia2 ib ib2
   go_enter Tryd.func78, Tryd.ntmps78
   go_wp2_with fail
   go_quiet (fail)
   go_wp2_with fail
   go_region
   go_wp2_with fail
   exact bodyPost_ret (v := .tuple #[.agg #[.int .i64 (0), .int .i64 (0)], .agg #[.int .i64 (0), .int .i64 (0)], .bool (false)]) (by simp [results, Tryd.results78, go_sem]) rfl ⟨by first | rfl | (simp [bnil, bswap]; done), (by repeat' (first | with_reducible (first | exact HW0.out | apply bR | apply bD | apply bN | apply bA | apply bS) | (simp; done) | (simp; omega) | omega))⟩
 ·have e : border ⟨al, ah⟩ ⟨bl, bh⟩ false = if !(bmeet ⟨al, ah⟩ ⟨bl + 1, 9223372036854775807⟩).2 || !(bmeet ⟨bl, bh⟩ ⟨-9223372036854775808, ah - 1⟩).2 then (bnil, bnil, false) else ((bmeet ⟨al, ah⟩ ⟨bl + 1, 9223372036854775807⟩).1, (bmeet ⟨bl, bh⟩ ⟨-9223372036854775808, ah - 1⟩).1, true) := by unfold border; rw [if_neg (by simpa using hx)]; rfl
  rw [e]
  clear e
  have b1 : bl + 1 ≤ 9223372036854775807 := by unfold In64 at ib; omega
  have b2 : -9223372036854775808 ≤ bl + 1 := by unfold In64 at ib; omega
  have b3 : -9223372036854775808 ≤ ah - 1 := by unfold In64 at ia2; omega
  have b4 : ah - 1 ≤ 9223372036854775807 := by unfold In64 at ia2; omega
  have b5 : (bl == 9223372036854775807) = false := by simp; omega
  have b6 : (ah == -9223372036854775808) = false := by simp; omega
  clear ia ia2 ib ib2 hx
  generalize hm1 : bmeet ⟨al, ah⟩ ⟨bl + 1, 9223372036854775807⟩ = m1
  generalize hm2 : bmeet ⟨bl, bh⟩ ⟨-9223372036854775808, ah - 1⟩ = m2
  have HM1 := Lib.hid hm1
  have HM2 := Lib.hid hm2
  clear hm1 hm2
  obtain ⟨⟨m1l, m1h⟩, m1b⟩ := m1
  obtain ⟨⟨m2l, m2h⟩, m2b⟩ := m2
  cases m1b <;> cases m2b
  ·go_enter Tryd.func78, Tryd.ntmps78
   go_wp2_with fail
   go_quiet (fail)
   go_wp2_with fail
   refine (RefMeet_any _ _ _ _ _).mono ?_
   rw [HM1.out]
   (rintro e w1 ⟨rfl, hb⟩; obtain ⟨hc1, hf1⟩ := bcell hb; have hz1 := hb.size; (try simp at hz1); have HW1 := Lib.hid (show Below w.heap.size w w1 from Below.trans (by repeat' (first | with_reducible (first | exact HW0.out | apply bR | apply bD | apply bN | apply bA | apply bS) | (simp; done) | (simp; omega) | omega)) (hb.mono (by first | omega | simp <;> omega))); clear hb; (try have z10 : w.heap.size < w1.heap.size := by omega); (try have z11 : w.heap.size + 1 < w1.heap.size := by omega); (try have z12 : w.heap.size + 1 + 1 < w1.heap.size := by omega); (try have z13 : w.heap.size + 1 + 1 + 1 < w1.heap.size := by omega); (try have z14 : w.heap.size + 1 + 1 + 1 + 1 < w1.heap.size := by omega); (try have z15 : w.heap.size + 1 + 1 + 1 + 1 + 1 < w1.heap.size := by omega))
   have y1a : w.heap.size < w1.heap.size := (by omega)
   have c1a_0 : w1.cell? ⟨w.heap.size, 0, none⟩ = some (.int .i64 (al)) := by rw [hc1 _ _ (by first | omega | simp <;> omega)]; first | done | (simp [go_sem]; done) | assumption
   have r1a_0 : w1.frozen? ⟨w.heap.size, 0, none⟩ = false := by rw [hf1 _ _ (by first | omega | simp <;> omega)]; first | done | (simp [go_sem]; done) | assumption
   have c1a_1 : w1.cell? ⟨w.heap.size, 1, none⟩ = some (.int .i64 (ah)) := by rw [hc1 _ _ (by first | omega | simp <;> omega)]; first | done | (simp [go_sem]; done) | assumption
   have r1a_1 : w1.frozen? ⟨w.heap.size, 1, none⟩ = false := by rw [hf1 _ _ (by first | omega | simp <;> omega)]; first | done | (simp [go_sem]; done) | assumption
   have y1b : w.heap.size + 1 < w1.heap.size := (by omega)
   have c1b_0 : w1.cell? ⟨w.heap.size + 1, 0, none⟩ = some (.int .i64 (bl)) := by rw [hc1 _ _ (by first | omega | simp <;> omega)]; first | done | (simp [go_sem]; done) | assumption
   have c1b_1 : w1.cell? ⟨w.heap.size + 1, 1, none⟩ = some (.int .i64 (bh)) := by rw [hc1 _ _ (by first | omega | simp <;> omega)]; first | done | (simp [go_sem]; done) | assumption
   have y1r : w.heap.size + 1 + 1 < w1.heap.size := (by omega)
   have c1r_0 : w1.cell? ⟨w.heap.size + 1 + 1, 0, none⟩ = some (.int .i64 (0)) := by rw [hc1 _ _ (by first | omega | simp <;> omega)]; first | done | (simp [go_sem]; done) | assumption
   have r1r_0 : w1.frozen? ⟨w.heap.size + 1 + 1, 0, none⟩ = false := by rw [hf1 _ _ (by first | omega | simp <;> omega)]; first | done | (simp [go_sem]; done) | assumption
   have c1r_1 : w1.cell? ⟨w.heap.size + 1 + 1, 1, none⟩ = some (.int .i64 (0)) := by rw [hc1 _ _ (by first | omega | simp <;> omega)]; first | done | (simp [go_sem]; done) | assumption
   have r1r_1 : w1.frozen? ⟨w.heap.size + 1 + 1, 1, none⟩ = false := by rw [hf1 _ _ (by first | omega | simp <;> omega)]; first | done | (simp [go_sem]; done) | assumption
   have y1s : w.heap.size + 1 + 1 + 1 < w1.heap.size := (by omega)
   have c1s_0 : w1.cell? ⟨w.heap.size + 1 + 1 + 1, 0, none⟩ = some (.int .i64 (0)) := by rw [hc1 _ _ (by first | omega | simp <;> omega)]; first | done | (simp [go_sem]; done) | assumption
   have r1s_0 : w1.frozen? ⟨w.heap.size + 1 + 1 + 1, 0, none⟩ = false := by rw [hf1 _ _ (by first | omega | simp <;> omega)]; first | done | (simp [go_sem]; done) | assumption
   have c1s_1 : w1.cell? ⟨w.heap.size + 1 + 1 + 1, 1, none⟩ = some (.int .i64 (0)) := by rw [hc1 _ _ (by first | omega | simp <;> omega)]; first | done | (simp [go_sem]; done) | assumption
   have r1s_1 : w1.frozen? ⟨w.heap.size + 1 + 1 + 1, 1, none⟩ = false := by rw [hf1 _ _ (by first | omega | simp <;> omega)]; first | done | (simp [go_sem]; done) | assumption
   have y1n : w.heap.size + 1 + 1 + 1 + 1 < w1.heap.size := (by omega)
   have c1n_0 : w1.cell? ⟨w.heap.size + 1 + 1 + 1 + 1, 0, none⟩ = some (.int .i64 (0)) := by rw [hc1 _ _ (by first | omega | simp <;> omega)]; first | done | (simp [go_sem]; done) | assumption
   have c1n_1 : w1.cell? ⟨w.heap.size + 1 + 1 + 1 + 1, 1, none⟩ = some (.int .i64 (0)) := by rw [hc1 _ _ (by first | omega | simp <;> omega)]; first | done | (simp [go_sem]; done) | assumption
   clear hc1 hf1
   go_wp2_with fail
   refine (RefMeet_any _ _ _ _ _).mono ?_
   rw [HM2.out]
   (rintro e w2 ⟨rfl, hb⟩; obtain ⟨hc2, hf2⟩ := bcell hb; have hz2 := hb.size; (try simp at hz2); have HW2 := Lib.hid (show Below w.heap.size w w2 from Below.trans (by repeat' (first | with_reducible (first | exact HW1.out | apply bR | apply bD | apply bN | apply bA | apply bS) | (simp; done) | (simp; omega) | omega)) (hb.mono (by first | omega | simp <;> omega))); clear hb; (try have z20 : w.heap.size < w2.heap.size := by omega); (try have z21 : w.heap.size + 1 < w2.heap.size := by omega); (try have z22 : w.heap.size + 1 + 1 < w2.heap.size := by omega); (try have z23 : w.heap.size + 1 + 1 + 1 < w2.heap.size := by omega); (try have z24 : w.heap.size + 1 + 1 + 1 + 1 < w2.heap.size := by omega); (try have z25 : w.heap.size + 1 + 1 + 1 + 1 + 1 < w2.heap.size := by omega))
   have y2a : w.heap.size < w2.heap.size := (by omega)
   have c2a_0 : w2.cell? ⟨w.heap.size, 0, none⟩ = some (.int .i64 (al)) := by rw [hc2 _ _ (by first | omega | simp <;> omega)]; first | done | (simp [go_sem, c1a_0, y1a, y1b, y1r, y1s, y1n]; done) | assumption
   have r2a_0 : w2.frozen? ⟨w.heap.size, 0, none⟩ = false := by rw [hf2 _ _ (by first | omega | simp <;> omega)]; first | done | (simp [go_sem, r1a_0, y1a, y1b, y1r, y1s, y1n]; done) | assumption
   have c2a_1 : w2.cell? ⟨w.heap.size, 1, none⟩ = some (.int .i64 (ah)) := by rw [hc2 _ _ (by first | omega | simp <;> omega)]; first | done | (simp [go_sem, c1a_1, y1a, y1b, y1r, y1s, y1n]; done) | assumption
   have r2a_1 : w2.frozen? ⟨w.heap.size, 1, none⟩ = false := by rw [hf2 _ _ (by first | omega | simp <;> omega)]; first | done | (simp [go_sem, r1a_1, y1a, y1b, y1r, y1s, y1n]; done) | assumption
   have y2b : w.heap.size + 1 < w2.heap.size := (by omega)
   have c2b_0 : w2.cell? ⟨w.heap.size + 1, 0, none⟩ = some (.int .i64 (bl)) := by rw [hc2 _ _ (by first | omega | simp <;> omega)]; first | done | (simp [go_sem, c1b_0, y1a, y1b, y1r, y1s, y1n]; done) | assumption
   have c2b_1 : w2.cell? ⟨w.heap.size + 1, 1, none⟩ = some (.int .i64 (bh)) := by rw [hc2 _ _ (by first | omega | simp <;> omega)]; first | done | (simp [go_sem, c1b_1, y1a, y1b, y1r, y1s, y1n]; done) | assumption
   have y2r : w.heap.size + 1 + 1 < w2.heap.size := (by omega)
   have c2r_0 : w2.cell? ⟨w.heap.size + 1 + 1, 0, none⟩ = some (.int .i64 (0)) := by rw [hc2 _ _ (by first | omega | simp <;> omega)]; first | done | (simp [go_sem, c1r_0, y1a, y1b, y1r, y1s, y1n]; done) | assumption
   have r2r_0 : w2.frozen? ⟨w.heap.size + 1 + 1, 0, none⟩ = false := by rw [hf2 _ _ (by first | omega | simp <;> omega)]; first | done | (simp [go_sem, r1r_0, y1a, y1b, y1r, y1s, y1n]; done) | assumption
   have c2r_1 : w2.cell? ⟨w.heap.size + 1 + 1, 1, none⟩ = some (.int .i64 (0)) := by rw [hc2 _ _ (by first | omega | simp <;> omega)]; first | done | (simp [go_sem, c1r_1, y1a, y1b, y1r, y1s, y1n]; done) | assumption
   have r2r_1 : w2.frozen? ⟨w.heap.size + 1 + 1, 1, none⟩ = false := by rw [hf2 _ _ (by first | omega | simp <;> omega)]; first | done | (simp [go_sem, r1r_1, y1a, y1b, y1r, y1s, y1n]; done) | assumption
   have y2s : w.heap.size + 1 + 1 + 1 < w2.heap.size := (by omega)
   have c2s_0 : w2.cell? ⟨w.heap.size + 1 + 1 + 1, 0, none⟩ = some (.int .i64 (0)) := by rw [hc2 _ _ (by first | omega | simp <;> omega)]; first | done | (simp [go_sem, c1s_0, y1a, y1b, y1r, y1s, y1n]; done) | assumption
   have r2s_0 : w2.frozen? ⟨w.heap.size + 1 + 1 + 1, 0, none⟩ = false := by rw [hf2 _ _ (by first | omega | simp <;> omega)]; first | done | (simp [go_sem, r1s_0, y1a, y1b, y1r, y1s, y1n]; done) | assumption
   have c2s_1 : w2.cell? ⟨w.heap.size + 1 + 1 + 1, 1, none⟩ = some (.int .i64 (0)) := by rw [hc2 _ _ (by first | omega | simp <;> omega)]; first | done | (simp [go_sem, c1s_1, y1a, y1b, y1r, y1s, y1n]; done) | assumption
   have r2s_1 : w2.frozen? ⟨w.heap.size + 1 + 1 + 1, 1, none⟩ = false := by rw [hf2 _ _ (by first | omega | simp <;> omega)]; first | done | (simp [go_sem, r1s_1, y1a, y1b, y1r, y1s, y1n]; done) | assumption
   have y2n : w.heap.size + 1 + 1 + 1 + 1 < w2.heap.size := (by omega)
   have c2n_0 : w2.cell? ⟨w.heap.size + 1 + 1 + 1 + 1, 0, none⟩ = some (.int .i64 (0)) := by rw [hc2 _ _ (by first | omega | simp <;> omega)]; first | done | (simp [go_sem, c1n_0, y1a, y1b, y1r, y1s, y1n]; done) | assumption
   have c2n_1 : w2.cell? ⟨w.heap.size + 1 + 1 + 1 + 1, 1, none⟩ = some (.int .i64 (0)) := by rw [hc2 _ _ (by first | omega | simp <;> omega)]; first | done | (simp [go_sem, c1n_1, y1a, y1b, y1r, y1s, y1n]; done) | assumption
   have y2x : w1.heap.size < w2.heap.size := (by omega)
   have c2x_0 : w2.cell? ⟨w1.heap.size, 0, none⟩ = some (.int .i64 (m1l)) := by rw [hc2 _ _ (by first | omega | simp <;> omega)]; first | done | (simp [go_sem, y1a, y1b, y1r, y1s, y1n]; done) | assumption
   have c2x_1 : w2.cell? ⟨w1.heap.size, 1, none⟩ = some (.int .i64 (m1h)) := by rw [hc2 _ _ (by first | omega | simp <;> omega)]; first | done | (simp [go_sem, y1a, y1b, y1r, y1s, y1n]; done) | assumption
   clear hc2 hf2
   go_wp2_with fail
   go_region
   go_wp2_with fail
   exact bodyPost_ret (v := .tuple #[.agg #[.int .i64 (0), .int .i64 (0)], .agg #[.int .i64 (0), .int .i64 (0)], .bool (false)]) (by simp [results, Tryd.results78, go_sem, y2a, c2a_0, c2a_1, y2b, c2b_0, c2b_1, y2r, c2r_0, c2r_1, y2s, c2s_0, c2s_1, y2n, c2n_0, c2n_1, y2x, c2x_0, c2x_1]) rfl ⟨by first | rfl | (simp [bnil, bswap]; done), (by repeat' (first | with_reducible (first | exact HW2.out | apply bR | apply bD | apply bN | apply bA | apply bS) | (simp; done) | (simp; omega) | omega))⟩
  ·go_enter Tryd.func78, Tryd.ntmps78
   go_wp2_with fail
   go_quiet (fail)
   go_wp2_with fail
   refine (RefMeet_any _ _ _ _ _).mono ?_
   rw [HM1.out]
   (rintro e w1 ⟨rfl, hb⟩; obtain ⟨hc1, hf1⟩ := bcell hb; have hz1 := hb.size; (try simp at hz1); have HW1 := Lib.hid (show Below w.heap.size w w1 from Below.trans (by repeat' (first | with_reducible (first | exact HW0.out | apply bR | apply bD | apply bN | apply bA | apply bS) | (simp; done) | (simp; omega) | omega)) (hb.mono (by first | omega | simp <;> omega))); clear hb; (try have z10 : w.heap.size < w1.heap.size := by omega); (try have z11 : w.heap.size + 1 < w1.heap.size := by omega); (try have z12 : w.heap.size + 1 + 1 < w1.heap.size := by omega); (try have z13 : w.heap.size + 1 + 1 + 1 < w1.heap.size := by omega); (try have z14 : w.heap.size + 1 + 1 + 1 + 1 < w1.heap.size := by omega); (try have z15 : w.heap.size + 1 + 1 + 1 + 1 + 1 < w1.heap.size := by omega))
   have y1a : w.heap.size < w1.heap.size := (by omega)
   have c1a_0 : w1.cell? ⟨w.heap.size, 0, none⟩ = some (.int .i64 (al)) := by rw [hc1 _ _ (by first | omega | simp <;> omega)]; first | done | (simp [go_sem]; done) | assumption
   have r1a_0 : w1.frozen? ⟨w.heap.size, 0, none⟩ = false := by rw [hf1 _ _ (by first | omega | simp <;> omega)]; first | done | (simp [go_sem]; done) | assumption
   have c1a_1 : w1.cell? ⟨w.heap.size, 1, none⟩ = some (.int .i64 (ah)) := by rw [hc1 _ _ (by first | omega | simp <;> omega)]; first | done | (simp [go_sem]; done) | assumption
   have r1a_1 : w1.frozen? ⟨w.heap.size, 1, none⟩ = false := by rw [hf1 _ _ (by first | omega | simp <;> omega)]; first | done | (simp [go_sem]; done) | assumption
   have y1b : w.heap.size + 1 < w1.heap.size := (by omega)
   have c1b_0 : w1.cell? ⟨w.heap.size + 1, 0, none⟩ = some (.int .i64 (bl)) := by rw [hc1 _ _ (by first | omega | simp <;> omega)]; first | done | (simp [go_sem]; done) | assumption
   have c1b_1 : w1.cell? ⟨w.heap.size + 1, 1, none⟩ = some (.int .i64 (bh)) := by rw [hc1 _ _ (by first | omega | simp <;> omega)]; first | done | (simp [go_sem]; done) | assumption
   have y1r : w.heap.size + 1 + 1 < w1.heap.size := (by omega)
   have c1r_0 : w1.cell? ⟨w.heap.size + 1 + 1, 0, none⟩ = some (.int .i64 (0)) := by rw [hc1 _ _ (by first | omega | simp <;> omega)]; first | done | (simp [go_sem]; done) | assumption
   have r1r_0 : w1.frozen? ⟨w.heap.size + 1 + 1, 0, none⟩ = false := by rw [hf1 _ _ (by first | omega | simp <;> omega)]; first | done | (simp [go_sem]; done) | assumption
   have c1r_1 : w1.cell? ⟨w.heap.size + 1 + 1, 1, none⟩ = some (.int .i64 (0)) := by rw [hc1 _ _ (by first | omega | simp <;> omega)]; first | done | (simp [go_sem]; done) | assumption
   have r1r_1 : w1.frozen? ⟨w.heap.size + 1 + 1, 1, none⟩ = false := by rw [hf1 _ _ (by first | omega | simp <;> omega)]; first | done | (simp [go_sem]; done) | assumption
   have y1s : w.heap.size + 1 + 1 + 1 < w1.heap.size := (by omega)
   have c1s_0 : w1.cell? ⟨w.heap.size + 1 + 1 + 1, 0, none⟩ = some (.int .i64 (0)) := by rw [hc1 _ _ (by first | omega | simp <;> omega)]; first | done | (simp [go_sem]; done) | assumption
   have r1s_0 : w1.frozen? ⟨w.heap.size + 1 + 1 + 1, 0, none⟩ = false := by rw [hf1 _ _ (by first | omega | simp <;> omega)]; first | done | (simp [go_sem]; done) | assumption
   have c1s_1 : w1.cell? ⟨w.heap.size + 1 + 1 + 1, 1, none⟩ = some (.int .i64 (0)) := by rw [hc1 _ _ (by first | omega | simp <;> omega)]; first | done | (simp [go_sem]; done) | assumption
   have r1s_1 : w1.frozen? ⟨w.heap.size + 1 + 1 + 1, 1, none⟩ = false := by rw [hf1 _ _ (by first | omega | simp <;> omega)]; first | done | (simp [go_sem]; done) | assumption
   have y1n : w.heap.size + 1 + 1 + 1 + 1 < w1.heap.size := (by omega)
   have c1n_0 : w1.cell? ⟨w.heap.size + 1 + 1 + 1 + 1, 0, none⟩ = some (.int .i64 (0)) := by rw [hc1 _ _ (by first | omega | simp <;> omega)]; first | done | (simp [go_sem]; done) | assumption
   have c1n_1 : w1.cell? ⟨w.heap.size + 1 + 1 + 1 + 1, 1, none⟩ = some (.int .i64 (0)) := by rw [hc1 _ _ (by first | omega | simp <;> omega)]; first | done | (simp [go_sem]; done) | assumption
   clear hc1 hf1
   go_wp2_with fail
   refine (RefMeet_any _ _ _ _ _).mono ?_
   rw [HM2.out]
   (rintro e w2 ⟨rfl, hb⟩; obtain ⟨hc2, hf2⟩ := bcell hb; have hz2 := hb.size; (try simp at hz2); have HW2 := Lib.hid (show Below w.heap.size w w2 from Below.trans (by repeat' (first | with_reducible (first | exact HW1.out | apply bR | apply bD | apply bN | apply bA | apply bS) | (simp; done) | (simp; omega) | omega)) (hb.mono (by first | omega | simp <;> omega))); clear hb; (try have z20 : w.heap.size < w2.heap.size := by omega); (try have z21 : w.heap.size + 1 < w2.heap.size := by omega); (try have z22 : w.heap.size + 1 + 1 < w2.heap.size := by omega); (try have z23 : w.heap.size + 1 + 1 + 1 < w2.heap.size := by omega); (try have z24 : w.heap.size + 1 + 1 + 1 + 1 < w2.heap.size := by omega); (try have z25 : w.heap.size + 1 + 1 + 1 + 1 + 1 < w2.heap.size := by omega))
   have y2a : w.heap.size < w2.heap.size := (by omega)
   have c2a_0 : w2.cell? ⟨w.heap.size, 0, none⟩ = some (.int .i64 (al)) := by rw [hc2 _ _ (by first | omega | simp <;> omega)]; first | done | (simp [go_sem, c1a_0, y1a, y1b, y1r, y1s, y1n]; done) | assumption
   have r2a_0 : w2.frozen? ⟨w.heap.size, 0, none⟩ = false := by rw [hf2 _ _ (by first | omega | simp <;> omega)]; first | done | (simp [go_sem, r1a_0, y1a, y1b, y1r, y1s, y1n]; done) | assumption
   have c2a_1 : w2.cell? ⟨w.heap.size, 1, none⟩ = some (.int .i64 (ah)) := by rw [hc2 _ _ (by first | omega | simp <;> omega)]; first | done | (simp [go_sem, c1a_1, y1a, y1b, y1r, y1s, y1n]; done) | assumption
   have r2a_1 : w2.frozen? ⟨w.heap.size, 1, none⟩ = false := by rw [hf2 _ _ (by first | omega | simp <;> omega)]; first | done | (simp [go_sem, r1a_1, y1a, y1b, y1r, y1s, y1n]; done) | assumption
   have y2b : w.heap.size + 1 < w2.heap.size := (by omega)
   have c2b_0 : w2.cell? ⟨w.heap.size + 1, 0, none⟩ = some (.int .i64 (bl)) := by rw [hc2 _ _ (by first | omega | simp <;> omega)]; first | done | (simp [go_sem, c1b_0, y1a, y1b, y1r, y1s, y1n]; done) | assumption
   have c2b_1 : w2.cell? ⟨w.heap.size + 1, 1, none⟩ = some (.int .i64 (bh)) := by rw [hc2 _ _ (by first | omega | simp <;> omega)]; first | done | (simp [go_sem, c1b_1, y1a, y1b, y1r, y1s, y1n]; done) | assumption
   have y2r : w.heap.size + 1 + 1 < w2.heap.size := (by omega)
   have c2r_0 : w2.cell? ⟨w.heap.size + 1 + 1, 0, none⟩ = some (.int .i64 (0)) := by rw [hc2 _ _ (by first | omega | simp <;> omega)]; first | done | (simp [go_sem, c1r_0, y1a, y1b, y1r, y1s, y1n]; done) | assumption
   have r2r_0 : w2.frozen? ⟨w.heap.size + 1 + 1, 0, none⟩ = false := by rw [hf2 _ _ (by first | omega | simp <;> omega)]; first | done | (simp [go_sem, r1r_0, y1a, y1b, y1r, y1s, y1n]; done) | assumption
   have c2r_1 : w2.cell? ⟨w.heap.size + 1 + 1, 1, none⟩ = some (.int .i64 (0)) := by rw [hc2 _ _ (by first | omega | simp <;> omega)]; first | done | (simp [go_sem, c1r_1, y1a, y1b, y1r, y1s, y1n]; done) | assumption
   have r2r_1 : w2.frozen? ⟨w.heap.size + 1 + 1, 1, none⟩ = false := by rw [hf2 _ _ (by first | omega | simp <;> omega)]; first | done | (simp [go_sem, r1r_1, y1a, y1b, y1r, y1s, y1n]; done) | assumption
   have y2s : w.heap.size + 1 + 1 + 1 < w2.heap.size := (by omega)
   have c2s_0 : w2.cell? ⟨w.heap.size + 1 + 1 + 1, 0, none⟩ = some (.int .i64 (0)) := by rw [hc2 _ _ (by first | omega | simp <;> omega)]; first | done | (simp [go_sem, c1s_0, y1a, y1b, y1r, y1s, y1n]; done) | assumption
   have r2s_0 : w2.frozen? ⟨w.heap.size + 1 + 1 + 1, 0, none⟩ = false := by rw [hf2 _ _ (by first | omega | simp <;> omega)]; first | done | (simp [go_sem, r1s_0, y1a, y1b, y1r, y1s, y1n]; done) | assumption
   have c2s_1 : w2.cell? ⟨w.heap.size + 1 + 1 + 1, 1, none⟩ = some (.int .i64 (0)) := by rw [hc2 _ _ (by first | omega | simp <;> omega)]; first | done | (simp [go_sem, c1s_1, y1a, y1b, y1r, y1s, y1n]; done) | assumption
   have r2s_1 : w2.frozen? ⟨w.heap.size + 1 + 1 + 1, 1, none⟩ = false := by rw [hf2 _ _ (by first | omega | simp <;> omega)]; first | done | (simp [go_sem, r1s_1, y1a, y1b, y1r, y1s, y1n]; done) | assumption
   have y2n : w.heap.size + 1 + 1 + 1 + 1 < w2.heap.size := (by omega)
   have c2n_0 : w2.cell? ⟨w.heap.size + 1 + 1 + 1 + 1, 0, none⟩ = some (.int .i64 (0)) := by rw [hc2 _ _ (by first | omega | simp <;> omega)]; first | done | (simp [go_sem, c1n_0, y1a, y1b, y1r, y1s, y1n]; done) | assumption
   have c2n_1 : w2.cell? ⟨w.heap.size + 1 + 1 + 1 + 1, 1, none⟩ = some (.int .i64 (0)) := by rw [hc2 _ _ (by first | omega | simp <;> omega)]; first | done | (simp [go_sem, c1n_1, y1a, y1b, y1r, y1s, y1n]; done) | assumption
   have y2x : w1.heap.size < w2.heap.size := (by omega)
   have c2x_0 : w2.cell? ⟨w1.heap.size, 0, none⟩ = some (.int .i64 (m1l)) := by rw [hc2 _ _ (by first | omega | simp <;> omega)]; first | done | (simp [go_sem, y1a, y1b, y1r, y1s, y1n]; done) | assumption
   have c2x_1 : w2.cell? ⟨w1.heap.size, 1, none⟩ = some (.int .i64 (m1h)) := by rw [hc2 _ _ (by first | omega | simp <;> omega)]; first | done | (simp [go_sem, y1a, y1b, y1r, y1s, y1n]; done) | assumption
   clear hc2 hf2
   go_wp2_with fail
   go_region
   go_wp2_with fail
   exact bodyPost_ret (v := .tuple #[.agg #[.int .i64 (0), .int .i64 (0)], .agg #[.int .i64 (0), .int .i64 (0)], .bool (false)]) (by simp [results, Tryd.results78, go_sem, y2a, c2a_0, c2a_1, y2b, c2b_0, c2b_1, y2r, c2r_0, c2r_1, y2s, c2s_0, c2s_1, y2n, c2n_0, c2n_1, y2x, c2x_0, c2x_1]) rfl ⟨by first | rfl | (simp [bnil, bswap]; done), (by repeat' (first | with_reducible (first | exact HW2.out | apply bR | apply bD | apply bN | apply bA | apply bS) | (simp; done) | (simp; omega) | omega))⟩
  ·go_enter Tryd.func78, Tryd.ntmps78
   go_wp2_with fail
   go_quiet (fail)
   go_wp2_with fail
   refine (RefMeet_any _ _ _ _ _).mono ?_
   rw [HM1.out]
   (rintro e w1 ⟨rfl, hb⟩; obtain ⟨hc1, hf1⟩ := bcell hb; have hz1 := hb.size; (try simp at hz1); have HW1 := Lib.hid (show Below w.heap.size w w1 from Below.trans (by repeat' (first | with_reducible (first | exact HW0.out | apply bR | apply bD | apply bN | apply bA | apply bS) | (simp; done) | (simp; omega) | omega)) (hb.mono (by first | omega | simp <;> omega))); clear hb; (try have z10 : w.heap.size < w1.heap.size := by omega); (try have z11 : w.heap.size + 1 < w1.heap.size := by omega); (try have z12 : w.heap.size + 1 + 1 < w1.heap.size := by omega); (try have z13 : w.heap.size + 1 + 1 + 1 < w1.heap.size := by omega); (try have z14 : w.heap.size + 1 + 1 + 1 + 1 < w1.heap.size := by omega); (try have z15 : w.heap.size + 1 + 1 + 1 + 1 + 1 < w1.heap.size := by omega))
   have y1a : w.heap.size < w1.heap.size := (by omega)
   have c1a_0 : w1.cell? ⟨w.heap.size, 0, none⟩ = some (.int .i64 (al)) := by rw [hc1 _ _ (by first | omega | simp <;> omega)]; first | done | (simp [go_sem]; done) | assumption
   have r1a_0 : w1.frozen? ⟨w.heap.size, 0, none⟩ = false := by rw [hf1 _ _ (by first | omega | simp <;> omega)]; first | done | (simp [go_sem]; done) | assumption
   have c1a_1 : w1.cell? ⟨w.heap.size, 1, none⟩ = some (.int .i64 (ah)) := by rw [hc1 _ _ (by first | omega | simp <;> omega)]; first | done | (simp [go_sem]; done) | assumption
   have r1a_1 : w1.frozen? ⟨w.heap.size, 1, none⟩ = false := by rw [hf1 _ _ (by first | omega | simp <;> omega)]; first | done | (simp [go_sem]; done) | assumption
   have y1b : w.heap.size + 1 < w1.heap.size := (by omega)
   have c1b_0 : w1.cell? ⟨w.heap.size + 1, 0, none⟩ = some (.int .i64 (bl)) := by rw [hc1 _ _ (by first | omega | simp <;> omega)]; first | done | (simp [go_sem]; done) | assumption
   have c1b_1 : w1.cell? ⟨w.heap.size + 1, 1, none⟩ = some (.int .i64 (bh)) := by rw [hc1 _ _ (by first | omega | simp <;> omega)]; first | done | (simp [go_sem]; done) | assumption
   have y1r : w.heap.size + 1 + 1 < w1.heap.size := (by omega)
   have c1r_0 : w1.cell? ⟨w.heap.size + 1 + 1, 0, none⟩ = some (.int .i64 (0)) := by rw [hc1 _ _ (by first | omega | simp <;> omega)]; first | done | (simp [go_sem]; done) | assumption
   have r1r_0 : w1.frozen? ⟨w.heap.size + 1 + 1, 0, none⟩ = false := by rw [hf1 _ _ (by first | omega | simp <;> omega)]; first | done | (simp [go_sem]; done) | assumption
   have c1r_1 : w1.cell? ⟨w.heap.size + 1 + 1, 1, none⟩ = some (.int .i64 (0)) := by rw [hc1 _ _ (by first | omega | simp <;> omega)]; first | done | (simp [go_sem]; done) | assumption
   have r1r_1 : w1.frozen? ⟨w.heap.size + 1 + 1, 1, none⟩ = false := by rw [hf1 _ _ (by first | omega | simp <;> omega)]; first | done | (simp [go_sem]; done) | assumption
   have y1s : w.heap.size + 1 + 1 + 1 < w1.heap.size := (by omega)
   have c1s_0 : w1.cell? ⟨w.heap.size + 1 + 1 + 1, 0, none⟩ = some (.int .i64 (0)) := by rw [hc1 _ _ (by first | omega | simp <;> omega)]; first | done | (simp [go_sem]; done) | assumption
   have r1s_0 : w1.frozen? ⟨w.heap.size + 1 + 1 + 1, 0, none⟩ = false := by rw [hf1 _ _ (by first | omega | simp <;> omega)]; first | done | (simp [go_sem]; done) | assumption
   have c1s_1 : w1.cell? ⟨w.heap.size + 1 + 1 + 1, 1, none⟩ = some (.int .i64 (0)) := by rw [hc1 _ _ (by first | omega | simp <;> omega)]; first | done | (simp [go_sem]; done) | assumption
   have r1s_1 : w1.frozen? ⟨w.heap.size + 1 + 1 + 1, 1, none⟩ = false := by rw [hf1 _ _ (by first | omega | simp <;> omega)]; first | done | (simp [go_sem]; done) | assumption
   have y1n : w.heap.size + 1 + 1 + 1 + 1 < w1.heap.size := (by omega)
   have c1n_0 : w1.cell? ⟨w.heap.size + 1 + 1 + 1 + 1, 0, none⟩ = some (.int .i64 (0)) := by rw [hc1 _ _ (by first | omega | simp <;> omega)]; first | done | (simp [go_sem]; done) | assumption
   have c1n_1 : w1.cell? ⟨w.heap.size + 1 + 1 + 1 + 1, 1, none⟩ = some (.int .i64 (0)) := by rw [hc1 _ _ (by first | omega | simp <;> omega)]; first | done | (simp [go_sem]; done) | assumption
   clear hc1 hf1
   go_wp2_with fail
   refine (RefMeet_any _ _ _ _ _).mono ?_
   rw [HM2.out]
   (rintro e w2 ⟨rfl, hb⟩; obtain ⟨hc2, hf2⟩ := bcell hb; have hz2 := hb.size; (try simp at hz2); have HW2 := Lib.hid (show Below w.heap.size w w2 from Below.trans (by repeat' (first | with_reducible (first | exact HW1.out | apply bR | apply bD | apply bN | apply bA | apply bS) | (simp; done) | (simp; omega) | omega)) (hb.mono (by first | omega | simp <;> omega))); clear hb; (try have z20 : w.heap.size < w2.heap.size := by omega); (try have z21 : w.heap.size + 1 < w2.heap.size := by omega); (try have z22 : w.heap.size + 1 + 1 < w2.heap.size := by omega); (try have z23 : w.heap.size + 1 + 1 + 1 < w2.heap.size := by omega); (try have z24 : w.heap.size + 1 + 1 + 1 + 1 < w2.heap.size := by omega); (try have z25 : w.heap.size + 1 + 1 + 1 + 1 + 1 < w2.heap.size := by omega))
   have y2a : w.heap.size < w2.heap.size := (by omega)
   have c2a_0 : w2.cell? ⟨w.heap.size, 0, none⟩ = some (.int .i64 (al)) := by rw [hc2 _ _ (by first | omega | simp <;> omega)]; first | done | (simp [go_sem, c1a_0, y1a, y1b, y1r, y1s, y1n]; done) | assumption
   have r2a_0 : w2.frozen? ⟨w.heap.size, 0, none⟩ = false := by rw [hf2 _ _ (by first | omega | simp <;> omega)]; first | done | (simp [go_sem, r1a_0, y1a, y1b, y1r, y1s, y1n]; done) | assumption
   have c2a_1 : w2.cell? ⟨w.heap.size, 1, none⟩ = some (.int .i64 (ah)) := by rw [hc2 _ _ (by first | omega | simp <;> omega)]; first | done | (simp [go_sem, c1a_1, y1a, y1b, y1r, y1s, y1n]; done) | assumption
   have r2a_1 : w2.frozen? ⟨w.heap.size, 1, none⟩ = false := by rw [hf2 _ _ (by first | omega | simp <;> omega)]; first | done | (simp [go_sem, r1a_1, y1a, y1b, y1r, y1s, y1n]; done) | assumption
   have y2b : w.heap.size + 1 < w2.heap.size := (by omega)
   have c2b_0 : w2.cell? ⟨w.heap.size + 1, 0, none⟩ = some (.int .i64 (bl)) := by rw [hc2 _ _ (by first | omega | simp <;> omega)]; first | done | (simp [go_sem, c1b_0, y1a, y1b, y1r, y1s, y1n]; done) | assumption
   have c2b_1 : w2.cell? ⟨w.heap.size + 1, 1, none⟩ = some (.int .i64 (bh)) := by rw [hc2 _ _ (by first | omega | simp <;> omega)]; first | done | (simp [go_sem, c1b_1, y1a, y1b, y1r, y1s, y1n]; done) | assumption
   have y2r : w.heap.size + 1 + 1 < w2.heap.size := (by omega)
   have c2r_0 : w2.cell? ⟨w.heap.size + 1 + 1, 0, none⟩ = some (.int .i64 (0)) := by rw [hc2 _ _ (by first | omega | simp <;> omega)]; first | done | (simp [go_sem, c1r_0, y1a, y1b, y1r, y1s, y1n]; done) | assumption
   have r2r_0 : w2.frozen? ⟨w.heap.size + 1 + 1, 0, none⟩ = false := by rw [hf2 _ _ (by first | omega | simp <;> omega)]; first | done | (simp [go_sem, r1r_0, y1a, y1b, y1r, y1s, y1n]; done) | assumption
   have c2r_1 : w2.cell? ⟨w.heap.size + 1 + 1, 1, none⟩ = some (.int .i64 (0)) := by rw [hc2 _ _ (by first | omega | simp <;> omega)]; first | done | (simp [go_sem, c1r_1, y1a, y1b, y1r, y1s, y1n]; done) | assumption
   have r2r_1 : w2.frozen? ⟨w.heap.size + 1 + 1, 1, none⟩ = false := by rw [hf2 _ _ (by first | omega | simp <;> omega)]; first | done | (simp [go_sem, r1r_1, y1a, y1b, y1r, y1s, y1n]; done) | assumption
   have y2s : w.heap.size + 1 + 1 + 1 < w2.heap.size := (by omega)
   have c2s_0 : w2.cell? ⟨w.heap.size + 1 + 1 + 1, 0, none⟩ = some (.int .i64 (0)) := by rw [hc2 _ _ (by first | omega | simp <;> omega)]; first | done | (simp [go_sem, c1s_0, y1a, y1b, y1r, y1s, y1n]; done) | assumption
   have r2s_0 : w2.frozen? ⟨w.heap.size + 1 + 1 + 1, 0, none⟩ = false := by rw [hf2 _ _ (by first | omega | simp <;> omega)]; first | done | (simp [go_sem, r1s_0, y1a, y1b, y1r, y1s, y1n]; done) | assumption
   have c2s_1 : w2.cell? ⟨w.heap.size + 1 + 1 + 1, 1, none⟩ = some (.int .i64 (0)) := by rw [hc2 _ _ (by first | omega | simp <;> omega)]; first | done | (simp [go_sem, c1s_1, y1a, y1b, y1r, y1s, y1n]; done) | assumption
   have r2s_1 : w2.frozen? ⟨w.heap.size + 1 + 1 + 1, 1, none⟩ = false := by rw [hf2 _ _ (by first | omega | simp <;> omega)]; first | done | (simp [go_sem, r1s_1, y1a, y1b, y1r, y1s, y1n]; done) | assumption
   have y2n : w.heap.size + 1 + 1 + 1 + 1 < w2.heap.size := (by omega)
   have c2n_0 : w2.cell? ⟨w.heap.size + 1 + 1 + 1 + 1, 0, none⟩ = some (.int .i64 (0)) := by rw [hc2 _ _ (by first | omega | simp <;> omega)]; first | done | (simp [go_sem, c1n_0, y1a, y1b, y1r, y1s, y1n]; done) | assumption
   have c2n_1 : w2.cell? ⟨w.heap.size + 1 + 1 + 1 + 1, 1, none⟩ = some (.int .i64 (0)) := by rw [hc2 _ _ (by first | omega | simp <;> omega)]; first | done | (simp [go_sem, c1n_1, y1a, y1b, y1r, y1s, y1n]; done) | assumption
   have y2x : w1.heap.size < w2.heap.size := (by omega)
   have c2x_0 : w2.cell? ⟨w1.heap.size, 0, none⟩ = some (.int .i64 (m1l)) := by rw [hc2 _ _ (by first | omega | simp <;> omega)]; first | done | (simp [go_sem, y1a, y1b, y1r, y1s, y1n]; done) | assumption
   have c2x_1 : w2.cell? ⟨w1.heap.size, 1, none⟩ = some (.int .i64 (m1h)) := by rw [hc2 _ _ (by first | omega | simp <;> omega)]; first | done | (simp [go_sem, y1a, y1b, y1r, y1s, y1n]; done) | assumption
   clear hc2 hf2
   go_wp2_with fail
   go_region
   go_wp2_with fail
   exact bodyPost_ret (v := .tuple #[.agg #[.int .i64 (0), .int .i64 (0)], .agg #[.int .i64 (0), .int .i64 (0)], .bool (false)]) (by simp [results, Tryd.results78, go_sem, y2a, c2a_0, c2a_1, y2b, c2b_0, c2b_1, y2r, c2r_0, c2r_1, y2s, c2s_0, c2s_1, y2n, c2n_0, c2n_1, y2x, c2x_0, c2x_1]) rfl ⟨by first | rfl | (simp [bnil, bswap]; done), (by repeat' (first | with_reducible (first | exact HW2.out | apply bR | apply bD | apply bN | apply bA | apply bS) | (simp; done) | (simp; omega) | omega))⟩
  ·go_enter Tryd.func78, Tryd.ntmps78
   go_wp2_with fail
   go_quiet (fail)
   go_wp2_with fail
   refine (RefMeet_any _ _ _ _ _).mono ?_
   rw [HM1.out]
   (rintro e w1 ⟨rfl, hb⟩; obtain ⟨hc1, hf1⟩ := bcell hb; have hz1 := hb.size; (try simp at hz1); have HW1 := Lib.hid (show Below w.heap.size w w1 from Below.trans (by repeat' (first | with_reducible (first | exact HW0.out | apply bR | apply bD | apply bN | apply bA | apply bS) | (simp; done) | (simp; omega) | omega)) (hb.mono (by first | omega | simp <;> omega))); clear hb; (try have z10 : w.heap.size < w1.heap.size := by omega); (try have z11 : w.heap.size + 1 < w1.heap.size := by omega); (try have z12 : w.heap.size + 1 + 1 < w1.heap.size := by omega); (try have z13 : w.heap.size + 1 + 1 + 1 < w1.heap.size := by omega); (try have z14 : w.heap.size + 1 + 1 + 1 + 1 < w1.heap.size := by omega); (try have z15 : w.heap.size + 1 + 1 + 1 + 1 + 1 < w1.heap.size := by omega))
   have y1a : w.heap.size < w1.heap.size := (by omega)
   have c1a_0 : w1.cell? ⟨w.heap.size, 0, none⟩ = some (.int .i64 (al)) := by rw [hc1 _ _ (by first | omega | simp <;> omega)]; first | done | (simp [go_sem]; done) | assumption
   have r1a_0 : w1.frozen? ⟨w.heap.size, 0, none⟩ = false := by rw [hf1 _ _ (by first | omega | simp <;> omega)]; first | done | (simp [go_sem]; done) | assumption
   have c1a_1 : w1.cell? ⟨w.heap.size, 1, none⟩ = some (.int .i64 (ah)) := by rw [hc1 _ _ (by first | omega | simp <;> omega)]; first | done | (simp [go_sem]; done) | assumption
   have r1a_1 : w1.frozen? ⟨w.heap.size, 1, none⟩ = false := by rw [hf1 _ _ (by first | omega | simp <;> omega)]; first | done | (simp [go_sem]; done) | assumption
   have y1b : w.heap.size + 1 < w1.heap.size := (by omega)
   have c1b_0 : w1.cell? ⟨w.heap.size + 1, 0, none⟩ = some (.int .i64 (bl)) := by rw [hc1 _ _ (by first | omega | simp <;> omega)]; first | done | (simp [go_sem]; done) | assumption
   have c1b_1 : w1.cell? ⟨w.heap.size + 1, 1, none⟩ = some (.int .i64 (bh)) := by rw [hc1 _ _ (by first | omega | simp <;> omega)]; first | done | (simp [go_sem]; done) | assumption
   have y1r : w.heap.size + 1 + 1 < w1.heap.size := (by omega)
   have c1r_0 : w1.cell? ⟨w.heap.size + 1 + 1, 0, none⟩ = some (.int .i64 (0)) := by rw [hc1 _ _ (by first | omega | simp <;> omega)]; first | done | (simp [go_sem]; done) | assumption
   have r1r_0 : w1.frozen? ⟨w.heap.size + 1 + 1, 0, none⟩ = false := by rw [hf1 _ _ (by first | omega | simp <;> omega)]; first | done | (simp [go_sem]; done) | assumption
   have c1r_1 : w1.cell? ⟨w.heap.size + 1 + 1, 1, none⟩ = some (.int .i64 (0)) := by rw [hc1 _ _ (by first | omega | simp <;> omega)]; first | done | (simp [go_sem]; done) | assumption
   have r1r_1 : w1.frozen? ⟨w.heap.size + 1 + 1, 1, none⟩ = false := by rw [hf1 _ _ (by first | omega | simp <;> omega)]; first | done | (simp [go_sem]; done) | assumption
   have y1s : w.heap.size + 1 + 1 + 1 < w1.heap.size := (by omega)
   have c1s_0 : w1.cell? ⟨w.heap.size + 1 + 1 + 1, 0, none⟩ = some (.int .i64 (0)) := by rw [hc1 _ _ (by first | omega | simp <;> omega)]; first | done | (simp [go_sem]; done) | assumption
   have r1s_0 : w1.frozen? ⟨w.heap.size + 1 + 1 + 1, 0, none⟩ = false := by rw [hf1 _ _ (by first | omega | simp <;> omega)]; first | done | (simp [go_sem]; done) | assumption
   have c1s_1 : w1.cell? ⟨w.heap.size + 1 + 1 + 1, 1, none⟩ = some (.int .i64 (0)) := by rw [hc1 _ _ (by first | omega | simp <;> omega)]; first | done | (simp [go_sem]; done) | assumption
   have r1s_1 : w1.frozen? ⟨w.heap.size + 1 + 1 + 1, 1, none⟩ = false := by rw [hf1 _ _ (by first | omega | simp <;> omega)]; first | done | (simp [go_sem]; done) | assumption
   have y1n : w.heap.size + 1 + 1 + 1 + 1 < w1.heap.size := (by omega)
   have c1n_0 : w1.cell? ⟨w.heap.size + 1 + 1 + 1 + 1, 0, none⟩ = some (.int .i64 (0)) := by rw [hc1 _ _ (by first | omega | simp <;> omega)]; first | done | (simp [go_sem]; done) | assumption
   have c1n_1 : w1.cell? ⟨w.heap.size + 1 + 1 + 1 + 1, 1, none⟩ = some (.int .i64 (0)) := by rw [hc1 _ _ (by first | omega | simp <;> omega)]; first | done | (simp [go_sem]; done) | assumption
   clear hc1 hf1
   go_wp2_with fail
   refine (RefMeet_any _ _ _ _ _).mono ?_
   rw [HM2.out]
   (rintro e w2 ⟨rfl, hb⟩; obtain ⟨hc2, hf2⟩ := bcell hb; have hz2 := hb.size; (try simp at hz2); have HW2 := Lib.hid (show Below w.heap.size w w2 from Below.trans (by repeat' (first | with_reducible (first | exact HW1.out | apply bR | apply bD | apply bN | apply bA | apply bS) | (simp; done) | (simp; omega) | omega)) (hb.mono (by first | omega | simp <;> omega))); clear hb; (try have z20 : w.heap.size < w2.heap.size := by omega); (try have z21 : w.heap.size + 1 < w2.heap.size := by omega); (try have z22 : w.heap.size + 1 + 1 < w2.heap.size := by omega); (try have z23 : w.heap.size + 1 + 1 + 1 < w2.heap.size := by omega); (try have z24 : w.heap.size + 1 + 1 + 1 + 1 < w2.heap.size := by omega); (try have z25 : w.heap.size + 1 + 1 + 1 + 1 + 1 < w2.heap.size := by omega))
   have y2a : w.heap.size < w2.heap.size := (by omega)
   have c2a_0 : w2.cell? ⟨w.heap.size, 0, none⟩ = some (.int .i64 (al)) := by rw [hc2 _ _ (by first | omega | simp <;> omega)]; first | done | (simp [go_sem, c1a_0, y1a, y1b, y1r, y1s, y1n]; done) | assumption
   have r2a_0 : w2.frozen? ⟨w.heap.size, 0, none⟩ = false := by rw [hf2 _ _ (by first | omega | simp <;> omega)]; first | done | (simp [go_sem, r1a_0, y1a, y1b, y1r, y1s, y1n]; done) | assumption
   have c2a_1 : w2.cell? ⟨w.heap.size, 1, none⟩ = some (.int .i64 (ah)) := by rw [hc2 _ _ (by first | omega | simp <;> omega)]; first | done | (simp [go_sem, c1a_1, y1a, y1b, y1r, y1s, y1n]; done) | assumption
   have r2a_1 : w2.frozen? ⟨w.heap.size, 1, none⟩ = false := by rw [hf2 _ _ (by first | omega | simp <;> omega)]; first | done | (simp [go_sem, r1a_1, y1a, y1b, y1r, y1s, y1n]; done) | assumption
   have y2b : w.heap.size + 1 < w2.heap.size := (by omega)
   have c2b_0 : w2.cell? ⟨w.heap.size + 1, 0, none⟩ = some (.int .i64 (bl)) := by rw [hc2 _ _ (by first | omega | simp <;> omega)]; first | done | (simp [go_sem, c1b_0, y1a, y1b, y1r, y1s, y1n]; done) | assumption
   have c2b_1 : w2.cell? ⟨w.heap.size + 1, 1, none⟩ = some (.int .i64 (bh)) := by rw [hc2 _ _ (by first | omega | simp <;> omega)]; first | done | (simp [go_sem, c1b_1, y1a, y1b, y1r, y1s, y1n]; done) | assumption
   have y2r : w.heap.size + 1 + 1 < w2.heap.size := (by omega)
   have c2r_0 : w2.cell? ⟨w.heap.size + 1 + 1, 0, none⟩ = some (.int .i64 (0)) := by rw [hc2 _ _ (by first | omega | simp <;> omega)]; first | done | (simp [go_sem, c1r_0, y1a, y1b, y1r, y1s, y1n]; done) | assumption
   have r2r_0 : w2.frozen? ⟨w.heap.size + 1 + 1, 0, none⟩ = false := by rw [hf2 _ _ (by first | omega | simp <;> omega)]; first | done | (simp [go_sem, r1r_0, y1a, y1b, y1r, y1s, y1n]; done) | assumption
   have c2r_1 : w2.cell? ⟨w.heap.size + 1 + 1, 1, none⟩ = some (.int .i64 (0)) := by rw [hc2 _ _ (by first | omega | simp <;> omega)]; first | done | (simp [go_sem, c1r_1, y1a, y1b, y1r, y1s, y1n]; done) | assumption
   have r2r_1 : w2.frozen? ⟨w.heap.size + 1 + 1, 1, none⟩ = false := by rw [hf2 _ _ (by first | omega | simp <;> omega)]; first | done | (simp [go_sem, r1r_1, y1a, y1b, y1r, y1s, y1n]; done) | assumption
   have y2s : w.heap.size + 1 + 1 + 1 < w2.heap.size := (by omega)
   have c2s_0 : w2.cell? ⟨w.heap.size + 1 + 1 + 1, 0, none⟩ = some (.int .i64 (0)) := by rw [hc2 _ _ (by first | omega | simp <;> omega)]; first | done | (simp [go_sem, c1s_0, y1a, y1b, y1r, y1s, y1n]; done) | assumption
   have r2s_0 : w2.frozen? ⟨w.heap.size + 1 + 1 + 1, 0, none⟩ = false := by rw [hf2 _ _ (by first | omega | simp <;> omega)]; first | done | (simp [go_sem, r1s_0, y1a, y1b, y1r, y1s, y1n]; done) | assumption
   have c2s_1 : w2.cell? ⟨w.heap.size + 1 + 1 + 1, 1, none⟩ = some (.int .i64 (0)) := by rw [hc2 _ _ (by first | omega | simp <;> omega)]; first | done | (simp [go_sem, c1s_1, y1a, y1b, y1r, y1s, y1n]; done) | assumption
   have r2s_1 : w2.frozen? ⟨w.heap.size + 1 + 1 + 1, 1, none⟩ = false := by rw [hf2 _ _ (by first | omega | simp <;> omega)]; first | done | (simp [go_sem, r1s_1, y1a, y1b, y1r, y1s, y1n]; done) | assumption
   have y2n : w.heap.size + 1 + 1 + 1 + 1 < w2.heap.size := (by omega)
   have c2n_0 : w2.cell? ⟨w.heap.size + 1 + 1 + 1 + 1, 0, none⟩ = some (.int .i64 (0)) := by rw [hc2 _ _ (by first | omega | simp <;> omega)]; first | done | (simp [go_sem, c1n_0, y1a, y1b, y1r, y1s, y1n]; done) | assumption
   have c2n_1 : w2.cell? ⟨w.heap.size + 1 + 1 + 1 + 1, 1, none⟩ = some (.int .i64 (0)) := by rw [hc2 _ _ (by first | omega | simp <;> omega)]; first | done | (simp [go_sem, c1n_1, y1a, y1b, y1r, y1s, y1n]; done) | assumption
   have y2x : w1.heap.size < w2.heap.size := (by omega)
   have c2x_0 : w2.cell? ⟨w1.heap.size, 0, none⟩ = some (.int .i64 (m1l)) := by rw [hc2 _ _ (by first | omega | simp <;> omega)]; first | done | (simp [go_sem, y1a, y1b, y1r, y1s, y1n]; done) | assumption
   have c2x_1 : w2.cell? ⟨w1.heap.size, 1, none⟩ = some (.int .i64 (m1h)) := by rw [hc2 _ _ (by first | omega | simp <;> omega)]; first | done | (simp [go_sem, y1a, y1b, y1r, y1s, y1n]; done) | assumption
   clear hc2 hf2
   go_wp2_with fail
   go_region
   go_wp2_with fail
   exact bodyPost_ret (v := .tuple #[.agg #[.int .i64 (m1l), .int .i64 (m1h)], .agg #[.int .i64 (m2l), .int .i64 (m2h)], .bool (true)]) (by simp [results, Tryd.results78, go_sem, y2a, c2a_0, c2a_1, y2b, c2b_0, c2b_1, y2r, c2r_0, c2r_1, y2s, c2s_0, c2s_1, y2n, c2n_0, c2n_1, y2x, c2x_0, c2x_1]) rfl ⟨by first | rfl | (simp [bnil, bswap]; done), (by repeat' (first | with_reducible (first | exact HW2.out | apply bR | apply bD | apply bN | apply bA | apply bS) | (simp; done) | (simp; omega) | omega))⟩

set_option maxRecDepth 100000 in
set_option maxHeartbeats 4000000 in
theorem RefN_22 (al ah bl bh : Int) (ia : In64 al) (ia2 : In64 ah) (ib : In64 bl) (ib2 : In64 bh) (w : World) :
  Calls Tryd.prog 78 #[.int .i64 22, .agg #[.int .i64 al, .int .i64 ah], .agg #[.int .i64 bl, .int .i64 bh]] w fun e w' => e = .returned (.tuple #[.agg #[.int .i64 (bnarrow 22 ⟨al, ah⟩ ⟨bl, bh⟩).1.lo, .int .i64 (bnarrow 22 ⟨al, ah⟩ ⟨bl, bh⟩).1.hi], .agg #[.int .i64 (bnarrow 22 ⟨al, ah⟩ ⟨bl, bh⟩).2.1.lo, .int .i64 (bnarrow 22 ⟨al, ah⟩ ⟨bl, bh⟩).2.1.hi], .bool (bnarrow 22 ⟨al, ah⟩ ⟨bl, bh⟩).2.2]) ∧ Below w.heap.size w w' := by
 have HW0 := Lib.hid (Below.refl w.heap.size w)
 have e0 : bnarrow 22 ⟨al, ah⟩ ⟨bl, bh⟩ = border ⟨al, ah⟩ ⟨bl, bh⟩ true := rfl
 rw [e0]
 clear e0
 have e : border ⟨al, ah⟩ ⟨bl, bh⟩ true = if !(bmeet ⟨al, ah⟩ ⟨bl, 9223372036854775807⟩).2 || !(bmeet ⟨bl, bh⟩ ⟨-9223372036854775808, ah⟩).2 then (bnil, bnil, false) else ((bmeet ⟨al, ah⟩ ⟨bl, 9223372036854775807⟩).1, (bmeet ⟨bl, bh⟩ ⟨-9223372036854775808, ah⟩).1, true) := by unfold border; rw [if_neg (by simp)]; rfl
 rw [e]
 clear ia ia2 ib ib2 e
 generalize hm1 : bmeet ⟨al, ah⟩ ⟨bl, 9223372036854775807⟩ = m1
 generalize hm2 : bmeet ⟨bl, bh⟩ ⟨-9223372036854775808, ah⟩ = m2
 have HM1 := Lib.hid hm1
 have HM2 := Lib.hid hm2
 clear hm1 hm2
 obtain ⟨⟨m1l, m1h⟩, m1b⟩ := m1
 obtain ⟨⟨m2l, m2h⟩, m2b⟩ := m2
 cases m1b <;> cases m2b
 ·go_enter Tryd.func78, Tryd.ntmps78
  go_wp2_with fail
  go_quiet (fail)
  go_wp2_with fail
  refine (RefMeet_any _ _ _ _ _).mono ?_
  rw [HM1.out]
  (rintro e w1 ⟨rfl, hb⟩; obtain ⟨hc1, hf1⟩ := bcell hb; have hz1 := hb.size; (try simp at hz1); have HW1 := Lib.hid (show Below w.heap.size w w1 from Below.trans (by repeat' (first | with_reducible (first | exact HW0.out | apply bR | apply bD | apply bN | apply bA | apply bS) | (simp; done) | (simp; omega) | omega)) (hb.mono (by first | omega | simp <;> omega))); clear hb; (try have z10 : w.heap.size < w1.heap.size := by omega); (try have z11 : w.heap.size + 1 < w1.heap.size := by omega); (try have z12 : w.heap.size + 1 + 1 < w1.heap.size := by omega); (try have z13 : w.heap.size + 1 + 1 + 1 < w1.heap.size := by omega); (try have z14 : w.heap.size + 1 + 1 + 1 + 1 < w1.heap.size := by omega); (try have z15 : w.heap.size + 1 + 1 + 1 + 1 + 1 < w1.heap.size := by omega))
  have y1a : w.heap.size < w1.heap.size := (by omega)
  have c1a_0 : w1.cell? ⟨w.heap.size, 0, none⟩ = some (.int .i64 (al)) := by rw [hc1 _ _ (by first | omega | simp <;> omega)]; first | done | (simp [go_sem]; done) | assumption
  have r1a_0 : w1.frozen? ⟨w.heap.size, 0, none⟩ = false := by rw [hf1 _ _ (by first | omega | simp <;> omega)]; first | done | (simp [go_sem]; done) | assumption
  have c1a_1 : w1.cell? ⟨w.heap.size, 1, none⟩ = some (.int .i64 (ah)) := by rw [hc1 _ _ (by first | omega | simp <;> omega)]; first | done | (simp [go_sem]; done) | assumption
  have r1a_1 : w1.frozen? ⟨w.heap.size, 1, none⟩ = false := by rw [hf1 _ _ (by first | omega | simp <;> omega)]; first | done | (simp [go_sem]; done) | assumption
  have y1b : w.heap.size + 1 < w1.heap.size := (by omega)
  have c1b_0 : w1.cell? ⟨w.heap.size + 1, 0, none⟩ = some (.int .i64 (bl)) := by rw [hc1 _ _ (by first | omega | simp <;> omega)]; first | done | (simp [go_sem]; done) | assumption
  have c1b_1 : w1.cell? ⟨w.heap.size + 1, 1, none⟩ = some (.int .i64 (bh)) := by rw [hc1 _ _ (by first | omega | simp <;> omega)]; first | done | (simp [go_sem]; done) | assumption
  have y1r : w.heap.size + 1 + 1 < w1.heap.size := (by omega)
  have c1r_0 : w1.cell? ⟨w.heap.size + 1 + 1, 0, none⟩ = some (.int .i64 (0)) := by rw [hc1 _ _ (by first | omega | simp <;> omega)]; first | done | (simp [go_sem]; done) | assumption
  have r1r_0 : w1.frozen? ⟨w.heap.size + 1 + 1, 0, none⟩ = false := by rw [hf1 _ _ (by first | omega | simp <;> omega)]; first | done | (simp [go_sem]; done) | assumption
  have c1r_1 : w1.cell? ⟨w.heap.size + 1 + 1, 1, none⟩ = some (.int .i64 (0)) := by rw [hc1 _ _ (by first | omega | simp <;> omega)]; first | done | (simp [go_sem]; done) | assumption
  have r1r_1 : w1.frozen? ⟨w.heap.size + 1 + 1, 1, none⟩ = false := by rw [hf1 _ _ (by first | omega | simp <;> omega)]; first | done | (simp [go_sem]; done) | assumption
  have y1s : w.heap.size + 1 + 1 + 1 < w1.heap.size := (by omega)
  have c1s_0 : w1.cell? ⟨w.heap.size + 1 + 1 + 1, 0, none⟩ = some (.int .i64 (0)) := by rw [hc1 _ _ (by first | omega | simp <;> omega)]; first | done | (simp [go_sem]; done) | assumption
  have r1s_0 : w1.frozen? ⟨w.heap.size + 1 + 1 + 1, 0, none⟩ = false := by rw [hf1 _ _ (by first | omega | simp <;> omega)]; first | done | (simp [go_sem]; done) | assumption
  have c1s_1 : w1.cell? ⟨w.heap.size + 1 + 1 + 1, 1, none⟩ = some (.int .i64 (0)) := by rw [hc1 _ _ (by first | omega | simp <;> omega)]; first | done | (simp [go_sem]; done) | assumption
  have r1s_1 : w1.frozen? ⟨w.heap.size + 1 + 1 + 1, 1, none⟩ = false := by rw [hf1 _ _ (by first | omega | simp <;> omega)]; first | done | (simp [go_sem]; done) | assumption
  have y1n : w.heap.size + 1 + 1 + 1 + 1 < w1.heap.size := (by omega)
  have c1n_0 : w1.cell? ⟨w.heap.size + 1 + 1 + 1 + 1, 0, none⟩ = some (.int .i64 (0)) := by rw [hc1 _ _ (by first | omega | simp <;> omega)]; first | done | (simp [go_sem]; done) | assumption
  have c1n_1 : w1.cell? ⟨w.heap.size + 1 + 1 + 1 + 1, 1, none⟩ = some (.int .i64 (0)) := by rw [hc1 _ _ (by first | omega | simp <;> omega)]; first | done | (simp [go_sem]; done) | assumption
  clear hc1 hf1
  go_wp2_with fail
  refine (RefMeet_any _ _ _ _ _).mono ?_
  rw [HM2.out]
  (rintro e w2 ⟨rfl, hb⟩; obtain ⟨hc2, hf2⟩ := bcell hb; have hz2 := hb.size; (try simp at hz2); have HW2 := Lib.hid (show Below w.heap.size w w2 from Below.trans (by repeat' (first | with_reducible (first | exact HW1.out | apply bR | apply bD | apply bN | apply bA | apply bS) | (simp; done) | (simp; omega) | omega)) (hb.mono (by first | omega | simp <;> omega))); clear hb; (try have z20 : w.heap.size < w2.heap.size := by omega); (try have z21 : w.heap.size + 1 < w2.heap.size := by omega); (try have z22 : w.heap.size + 1 + 1 < w2.heap.size := by omega); (try have z23 : w.heap.size + 1 + 1 + 1 < w2.heap.size := by omega); (try have z24 : w.heap.size + 1 + 1 + 1 + 1 < w2.heap.size := by omega); (try have z25 : w.heap.size + 1 + 1 + 1 + 1 + 1 < w2.heap.size := by omega))
  have y2a : w.heap.size < w2.heap.size := (by omega)
  have c2a_0 : w2.cell? ⟨w.heap.size, 0, none⟩ = some (.int .i64 (al)) := by rw [hc2 _ _ (by first | omega | simp <;> omega)]; first | done | (simp [go_sem, c1a_0, y1a, y1b, y1r, y1s, y1n]; done) | assumption
  have r2a_0 : w2.frozen? ⟨w.heap.size, 0, none⟩ = false := by rw [hf2 _ _ (by first | omega | simp <;> omega)]; first | done | (simp [go_sem, r1a_0, y1a, y1b, y1r, y1s, y1n]; done) | assumption
  have c2a_1 : w2.cell? ⟨w.heap.size, 1, none⟩ = some (.int .i64 (ah)) := by rw [hc2 _ _ (by first | omega | simp <;> omega)]; first | done | (simp [go_sem, c1a_1, y1a, y1b, y1r, y1s, y1n]; done) | assumption
  have r2a_1 : w2.frozen? ⟨w.heap.size, 1, none⟩ = false := by rw [hf2 _ _ (by first | omega | simp <;> omega)]; first | done | (simp [go_sem, r1a_1, y1a, y1b, y1r, y1s, y1n]; done) | assumption
  have y2b : w.heap.size + 1 < w2.heap.size := (by omega)
  have c2b_0 : w2.cell? ⟨w.heap.size + 1, 0, none⟩ = some (.int .i64 (bl)) := by rw [hc2 _ _ (by first | omega | simp <;> omega)]; first | done | (simp [go_sem, c1b_0, y1a, y1b, y1r, y1s, y1n]; done) | assumption
  have c2b_1 : w2.cell? ⟨w.heap.size + 1, 1, none⟩ = some (.int .i64 (bh)) := by rw [hc2 _ _ (by first | omega | simp <;> omega)]; first | done | (simp [go_sem, c1b_1, y1a, y1b, y1r, y1s, y1n]; done) | assumption
  have y2r : w.heap.size + 1 + 1 < w2.heap.size := (by omega)
  have c2r_0 : w2.cell? ⟨w.heap.size + 1 + 1, 0, none⟩ = some (.int .i64 (0)) := by rw [hc2 _ _ (by first | omega | simp <;> omega)]; first | done | (simp [go_sem, c1r_0, y1a, y1b, y1r, y1s, y1n]; done) | assumption
  have r2r_0 : w2.frozen? ⟨w.heap.size + 1 + 1, 0, none⟩ = false := by rw [hf2 _ _ (by first | omega | simp <;> omega)]; first | done | (simp [go_sem, r1r_0, y1a, y1b, y1r, y1s, y1n]; done) | assumption
  have c2r_1 : w2.cell? ⟨w.heap.size + 1 + 1, 1, none⟩ = some (.int .i64 (0)) := by rw [hc2 _ _ (by first | omega | simp <;> omega)]; first | done | (simp [go_sem, c1r_1, y1a, y1b, y1r, y1s, y1n]; done) | assumption
  have r2r_1 : w2.frozen? ⟨w.heap.size + 1 + 1, 1, none⟩ = false := by rw [hf2 _ _ (by first | omega | simp <;> omega)]; first | done | (simp [go_sem, r1r_1, y1a, y1b, y1r, y1s, y1n]; done) | assumption
  have y2s : w.heap.size + 1 + 1 + 1 < w2.heap.size := (by omega)
  have c2s_0 : w2.cell? ⟨w.heap.size + 1 + 1 + 1, 0, none⟩ = some (.int .i64 (0)) := by rw [hc2 _ _ (by first | omega | simp <;> omega)]; first | done | (simp [go_sem, c1s_0, y1a, y1b, y1r, y1s, y1n]; done) | assumption
  have r2s_0 : w2.frozen? ⟨w.heap.size + 1 + 1 + 1, 0, none⟩ = false := by rw [hf2 _ _ (by first | omega | simp <;> omega)]; first | done | (simp [go_sem, r1s_0, y1a, y1b, y1r, y1s, y1n]; done) | assumption
  have c2s_1 : w2.cell? ⟨w.heap.size + 1 + 1 + 1, 1, none⟩ = some (.int .i64 (0)) := by rw [hc2 _ _ (by first | omega | simp <;> omega)]; first | done | (simp [go_sem, c1s_1, y1a, y1b, y1r, y1s, y1n]; done) | assumption
  have r2s_1 : w2.frozen? ⟨w.heap.size + 1 + 1 + 1, 1, none⟩ = false := by rw [hf2 _ _ (by first | omega | simp <;> omega)]; first | done | (simp [go_sem, r1s_1, y1a, y1b, y1r, y1s, y1n]; done) | assumption
  have y2n : w.heap.size + 1 + 1 + 1 + 1 < w2.heap.size := (by omega)
  have c2n_0 : w2.cell? ⟨w.heap.size + 1 + 1 + 1 + 1, 0, none⟩ = some (.int .i64 (0)) := by rw [hc2 _ _ (by first | omega | simp <;> omega)]; first | done | (simp [go_sem, c1n_0, y1a, y1b, y1r, y1s, y1n]; done) | assumption
  have c2n_1 : w2.cell? ⟨w.heap.size + 1 + 1 + 1 + 1, 1, none⟩ = some (.int .i64 (0)) := by rw [hc2 _ _ (by first | omega | simp <;> omega)]; first | done | (simp [go_sem, c1n_1, y1a, y1b, y1r, y1s, y1n]; done) | assumption
  have y2x : w1.heap.size < w2.heap.size := (by omega)
  have c2x_0 : w2.cell? ⟨w1.heap.size, 0, none⟩ = some (.int .i64 (m1l)) := by rw [hc2 _ _ (by first | omega | simp <;> omega)]; first | done | (simp [go_sem, y1a, y1b, y1r, y1s, y1n]; done) | assumption
  have c2x_1 : w2.cell? ⟨w1.heap.size, 1, none⟩ = some (.int .i64 (m1h)) := by rw [hc2 _ _ (by first | omega | simp <;> omega)]; first | done | (simp [go_sem, y1a, y1b, y1r, y1s, y1n]; done) | assumption
  clear hc2 hf2
  go_wp2_with fail
  go_region
  go_wp2_with fail
  exact bodyPost_ret (v := .tuple #[.agg #[.int .i64 (0), .int .i64 (0)], .agg #[.int .i64 (0), .int .i64 (0)], .bool (false)]) (by simp [results, Tryd.results78, go_sem, y2a, c2a_0, c2a_1, y2b, c2b_0, c2b_1, y2r, c2r_0, c2r_1, y2s, c2s_0, c2s_1, y2n, c2n_0, c2n_1, y2x, c2x_0, c2x_1]) rfl ⟨by first | rfl | (simp [bnil, bswap]; done), (by repeat' (first | with_reducible (first | exact HW2.out | apply bR | apply bD | apply bN | apply bA | apply bS) | (simp; done) | (simp; omega) | omega))⟩
 ·go_enter Tryd.func78, Tryd.ntmps78
  go_wp2_with fail
  go_quiet (fail)
  go_wp2_with fail
  refine (RefMeet_any _ _ _ _ _).mono ?_
  rw [HM1.out]
  (rintro e w1 ⟨rfl, hb⟩; obtain ⟨hc1, hf1⟩ := bcell hb; have hz1 := hb.size; (try simp at hz1); have HW1 := Lib.hid (show Below w.heap.size w w1 from Below.trans (by repeat' (first | with_reducible (first | exact HW0.out | apply bR | apply bD | apply bN | apply bA | apply bS) | (simp; done) | (simp; omega) | omega)) (hb.mono (by first | omega | simp <;> omega))); clear hb; (try have z10 : w.heap.size < w1.heap.size := by omega); (try have z11 : w.heap.size + 1 < w1.heap.size := by omega); (try have z12 : w.heap.size + 1 + 1 < w1.heap.size := by omega); (try have z13 : w.heap.size + 1 + 1 + 1 < w1.heap.size := by omega); (try have z14 : w.heap.size + 1 + 1 + 1 + 1 < w1.heap.size := by omega); (try have z15 : w.heap.size + 1 + 1 + 1 + 1 + 1 < w1.heap.size := by omega))
  have y1a : w.heap.size < w1.heap.size := (by omega)
  have c1a_0 : w1.cell? ⟨w.heap.size, 0, none⟩ = some (.int .i64 (al)) := by rw [hc1 _ _ (by first | omega | simp <;> omega)]; first | done | (simp [go_sem]; done) | assumption
  have r1a_0 : w1.frozen? ⟨w.heap.size, 0, none⟩ = false := by rw [hf1 _ _ (by first | omega | simp <;> omega)]; first | done | (simp [go_sem]; done) | assumption
  have c1a_1 : w1.cell? ⟨w.heap.size, 1, none⟩ = some (.int .i64 (ah)) := by rw [hc1 _ _ (by first | omega | simp <;> omega)]; first | done | (simp [go_sem]; done) | assumption
  have r1a_1 : w1.frozen? ⟨w.heap.size, 1, none⟩ = false := by rw [hf1 _ _ (by first | omega | simp <;> omega)]; first | done | (simp [go_sem]; done) | assumption
  have y1b : w.heap.size + 1 < w1.heap.size := (by omega)
  have c1b_0 : w1.cell? ⟨w.heap.size + 1, 0, none⟩ = some (.int .i64 (bl)) := by rw [hc1 _ _ (by first | omega | simp <;> omega)]; first | done | (simp [go_sem]; done) | assumption
  have c1b_1 : w1.cell? ⟨w.heap.size + 1, 1, none⟩ = some (.int .i64 (bh)) := by rw [hc1 _ _ (by first | omega | simp <;> omega)]; first | done | (simp [go_sem]; done) | assumption
  have y1r : w.heap.size + 1 + 1 < w1.heap.size := (by omega)
  have c1r_0 : w1.cell? ⟨w.heap.size + 1 + 1, 0, none⟩ = some (.int .i64 (0)) := by rw [hc1 _ _ (by first | omega | simp <;> omega)]; first | done | (simp [go_sem]; done) | assumption
  have r1r_0 : w1.frozen? ⟨w.heap.size + 1 + 1, 0, none⟩ = false := by rw [hf1 _ _ (by first | omega | simp <;> omega)]; first | done | (simp [go_sem]; done) | assumption
  have c1r_1 : w1.cell? ⟨w.heap.size + 1 + 1, 1, none⟩ = some (.int .i64 (0)) := by rw [hc1 _ _ (by first | omega | simp <;> omega)]; first | done | (simp [go_sem]; done) | assumption
  have r1r_1 : w1.frozen? ⟨w.heap.size + 1 + 1, 1, none⟩ = false := by rw [hf1 _ _ (by first | omega | simp <;> omega)]; first | done | (simp [go_sem]; done) | assumption
  have y1s : w.heap.size + 1 + 1 + 1 < w1.heap.size := (by omega)
  have c1s_0 : w1.cell? ⟨w.heap.size + 1 + 1 + 1, 0, none⟩ = some (.int .i64 (0)) := by rw [hc1 _ _ (by first | omega | simp <;> omega)]; first | done | (simp [go_sem]; done) | assumption
  have r1s_0 : w1.frozen? ⟨w.heap.size + 1 + 1 + 1, 0, none⟩ = false := by rw [hf1 _ _ (by first | omega | simp <;> omega)]; first | done | (simp [go_sem]; done) | assumption
  have c1s_1 : w1.cell? ⟨w.heap.size + 1 + 1 + 1, 1, none⟩ = some (.int .i64 (0)) := by rw [hc1 _ _ (by first | omega | simp <;> omega)]; first | done | (simp [go_sem]; done) | assumption
  have r1s_1 : w1.frozen? ⟨w.heap.size + 1 + 1 + 1, 1, none⟩ = false := by rw [hf1 _ _ (by first | omega | simp <;> omega)]; first | done | (simp [go_sem]; done) | assumption
  have y1n : w.heap.size + 1 + 1 + 1 + 1 < w1.heap.size := (by omega)
  have c1n_0 : w1.cell? ⟨w.heap.size + 1 + 1 + 1 + 1, 0, none⟩ = some (.int .i64 (0)) := by rw [hc1 _ _ (by first | omega | simp <;> omega)]; first | done | (simp [go_sem]; done) | assumption
  have c1n_1 : w1.cell? ⟨w.heap.size + 1 + 1 + 1 + 1, 1, none⟩ = some (.int .i64 (0)) := by rw [hc1 _ _ (by first | omega | simp <;> omega)]; first | done | (simp [go_sem]; done) | assumption
  clear hc1 hf1
  go_wp2_with fail
  refine (RefMeet_any _ _ _ _ _).mono ?_
  rw [HM2.out]
  (rintro e w2 ⟨rfl, hb⟩; obtain ⟨hc2, hf2⟩ := bcell hb; have hz2 := hb.size; (try simp at hz2); have HW2 := Lib.hid (show Below w.heap.size w w2 from Below.trans (by repeat' (first | with_reducible (first | exact HW1.out | apply bR | apply bD | apply bN | apply bA | apply bS) | (simp; done) | (simp; omega) | omega)) (hb.mono (by first | omega | simp <;> omega))); clear hb; (try have z20 : w.heap.size < w2.heap.size := by omega); (try have z21 : w.heap.size + 1 < w2.heap.size := by omega); (try have z22 : w.heap.size + 1 + 1 < w2.heap.size := by omega); (try have z23 : w.heap.size + 1 + 1 + 1 < w2.heap.size := by omega); (try have z24 : w.heap.size + 1 + 1 + 1 + 1 < w2.heap.size := by omega); (try have z25 : w.heap.size + 1 + 1 + 1 + 1 + 1 < w2.heap.size := by omega))
  have y2a : w.heap.size < w2.heap.size := (by omega)
  have c2a_0 : w2.cell? ⟨w.heap.size, 0, none⟩ = some (.int .i64 (al)) := by rw [hc2 _ _ (by first | omega | simp <;> omega)]; first | done | (simp [go_sem, c1a_0, y1a, y1b, y1r, y1s, y1n]; done) | assumption
  have r2a_0 : w2.frozen? ⟨w.heap.size, 0, none⟩ = false := by rw [hf2 _ _ (by first | omega | simp <;> omega)]; first | done | (simp [go_sem, r1a_0, y1a, y1b, y1r, y1s, y1n]; done) | assumption
  have c2a_1 : w2.cell? ⟨w.heap.size, 1, none⟩ = some (.int .i64 (ah)) := by rw [hc2 _ _ (by first | omega | simp <;> omega)]; first | done | (simp [go_sem, c1a_1, y1a, y1b, y1r, y1s, y1n]; done) | assumption
  have r2a_1 : w2.frozen? ⟨w.heap.size, 1, none⟩ = false := by rw [hf2 _ _ (by first | omega | simp <;> omega)]; first | done | (simp [go_sem, r1a_1, y1a, y1b, y1r, y1s, y1n]; done) | assumption
  have y2b : w.heap.size + 1 < w2.heap.size := (by omega)
  have c2b_0 : w2.cell? ⟨w.heap.size + 1, 0, none⟩ = some (.int .i64 (bl)) := by rw [hc2 _ _ (by first | omega | simp <;> omega)]; first | done | (simp [go_sem, c1b_0, y1a, y1b, y1r, y1s, y1n]; done) | assumption
  have c2b_1 : w2.cell? ⟨w.heap.size + 1, 1, none⟩ = some (.int .i64 (bh)) := by rw [hc2 _ _ (by first | omega | simp <;> omega)]; first | done | (simp [go_sem, c1b_1, y1a, y1b, y1r, y1s, y1n]; done) | assumption
  have y2r : w.heap.size + 1 + 1 < w2.heap.size := (by omega)
  have c2r_0 : w2.cell? ⟨w.heap.size + 1 + 1, 0, none⟩ = some (.int .i64 (0)) := by rw [hc2 _ _ (by first | omega | simp <;> omega)]; first | done | (simp [go_sem, c1r_0, y1a, y1b, y1r, y1s, y1n]; done) | assumption
  have r2r_0 : w2.frozen? ⟨w.heap.size + 1 + 1, 0, none⟩ = false := by rw [hf2 _ _ (by first | omega | simp <;> omega)]; first | done | (simp [go_sem, r1r_0, y1a, y1b, y1r, y1s, y1n]; done) | assumption
  have c2r_1 : w2.cell? ⟨w.heap.size + 1 + 1, 1, none⟩ = some (.int .i64 (0)) := by rw [hc2 _ _ (by first | omega | simp <;> omega)]; first | done | (simp [go_sem, c1r_1, y1a, y1b, y1r, y1s, y1n]; done) | assumption
  have r2r_1 : w2.frozen? ⟨w.heap.size + 1 + 1, 1, none⟩ = false := by rw [hf2 _ _ (by first | omega | simp <;> omega)]; first | done | (simp [go_sem, r1r_1, y1a, y1b, y1r, y1s, y1n]; done) | assumption
  have y2s : w.heap.size + 1 + 1 + 1 < w2.heap.size := (by omega)
  have c2s_0 : w2.cell? ⟨w.heap.size + 1 + 1 + 1, 0, none⟩ = some (.int .i64 (0)) := by rw [hc2 _ _ (by first | omega | simp <;> omega)]; first | done | (simp [go_sem, c1s_0, y1a, y1b, y1r, y1s, y1n]; done) | assumption
  have r2s_0 : w2.frozen? ⟨w.heap.size + 1 + 1 + 1, 0, none⟩ = false := by rw [hf2 _ _ (by first | omega | simp <;> omega)]; first | done | (simp [go_sem, r1s_0, y1a, y1b, y1r, y1s, y1n]; done) | assumption
  have c2s_1 : w2.cell? ⟨w.heap.size + 1 + 1 + 1, 1, none⟩ = some (.int .i64 (0)) := by rw [hc2 _ _ (by first | omega | simp <;> omega)]; first | done | (simp [go_sem, c1s_1, y1a, y1b, y1r, y1s, y1n]; done) | assumption
  have r2s_1 : w2.frozen? ⟨w.heap.size + 1 + 1 + 1, 1, none⟩ = false := by rw [hf2 _ _ (by first | omega | simp <;> omega)]; first | done | (simp [go_sem, r1s_1, y1a, y1b, y1r, y1s, y1n]; done) | assumption
  have y2n : w.heap.size + 1 + 1 + 1 + 1 < w2.heap.size := (by omega)
  have c2n_0 : w2.cell? ⟨w.heap.size + 1 + 1 + 1 + 1, 0, none⟩ = some (.int .i64 (0)) := by rw [hc2 _ _ (by first | omega | simp <;> omega)]; first | done | (simp [go_sem, c1n_0, y1a, y1b, y1r, y1s, y1n]; done) | assumption
  have c2n_1 : w2.cell? ⟨w.heap.size + 1 + 1 + 1 + 1, 1, none⟩ = some (.int .i64 (0)) := by rw [hc2 _ _ (by first | omega | simp <;> omega)]; first | done | (simp [go_sem, c1n_1, y1a, y1b, y1r, y1s, y1n]; done) | assumption
  have y2x : w1.heap.size < w2.heap.size := (by omega)
  have c2x_0 : w2.cell? ⟨w1.heap.size, 0, none⟩ = some (.int .i64 (m1l)) := by rw [hc2 _ _ (by first | omega | simp <;> omega)]; first | done | (simp [go_sem, y1a, y1b, y1r, y1s, y1n]; done) | assumption
  have c2x_1 : w2.cell? ⟨w1.heap.size, 1, none⟩ = some (.int .i64 (m1h)) := by rw [hc2 _ _ (by first | omega | simp <;> omega)]; first | done | (simp [go_sem, y1a, y1b, y1r, y1s, y1n]; done) | assumption
  clear hc2 hf2
  go_wp2_with fail
  go_region
  go_wp2_with fail
  exact bodyPost_ret (v := .tuple #[.agg #[.int .i64 (0), .int .i64 (0)], .agg #[.int .i64 (0), .int .i64 (0)], .bool (false)]) (by simp [results, Tryd.results78, go_sem, y2a, c2a_0, c2a_1, y2b, c2b_0, c2b_1, y2r, c2r_0, c2r_1, y2s, c2s_0, c2s_1, y2n, c2n_0, c2n_1, y2x, c2x_0, c2x_1]) rfl ⟨by first | rfl | (simp [bnil, bswap]; done), (by repeat' (first | with_reducible (first | exact HW2.out | apply bR | apply bD | apply bN | apply bA | apply bS) | (simp; done) | (simp; omega) | omega))⟩
 ·go_enter Tryd.func78, Tryd.ntmps78
  go_wp2_with fail
  go_quiet (fail)
  go_wp2_with fail
  refine (RefMeet_any _ _ _ _ _).mono ?_
  rw [HM1.out]
  (rintro e w1 ⟨rfl, hb⟩; obtain ⟨hc1, hf1⟩ := bcell hb; have hz1 := hb.size; (try simp at hz1); have HW1 := Lib.hid (show Below w.heap.size w w1 from Below.trans (by repeat' (first | with_reducible (first | exact HW0.out | apply bR | apply bD | apply bN | apply bA | apply bS) | (simp; done) | (simp; omega) | omega)) (hb.mono (by first | omega | simp <;> omega))); clear hb; (try have z10 : w.heap.size < w1.heap.size := by omega); (try have z11 : w.heap.size + 1 < w1.heap.size := by omega); (try have z12 : w.heap.size + 1 + 1 < w1.heap.size := by omega); (try have z13 : w.heap.size + 1 + 1 + 1 < w1.heap.size := by omega); (try have z14 : w.heap.size + 1 + 1 + 1 + 1 < w1.heap.size := by omega); (try have z15 : w.heap.size + 1 + 1 + 1 + 1 + 1 < w1.heap.size := by omega))
  have y1a : w.heap.size < w1.heap.size := (by omega)
  have c1a_0 : w1.cell? ⟨w.heap.size, 0, none⟩ = some (.int .i64 (al)) := by rw [hc1 _ _ (by first | omega | simp <;> omega)]; first | done | (simp [go_sem]; done) | assumption
  have r1a_0 : w1.frozen? ⟨w.heap.size, 0, none⟩ = false := by rw [hf1 _ _ (by first | omega | simp <;> omega)]; first | done | (simp [go_sem]; done) | assumption
  have c1a_1 : w1.cell? ⟨w.heap.size, 1, none⟩ = some (.int .i64 (ah)) := by rw [hc1 _ _ (by first | omega | simp <;> omega)]; first | done | (simp [go_sem]; done) | assumption
  have r1a_1 : w1.frozen? ⟨w.heap.size, 1, none⟩ = false := by rw [hf1 _ _ (by first | omega | simp <;> omega)]; first | done | (simp [go_sem]; done) | assumption
  have y1b : w.heap.size + 1 < w1.heap.size := (by omega)
  have c1b_0 : w1.cell? ⟨w.heap.size + 1, 0, none⟩ = some (.int .i64 (bl)) := by rw [hc1 _ _ (by first | omega | simp <;> omega)]; first | done | (simp [go_sem]; done) | assumption
  have c1b_1 : w1.cell? ⟨w.heap.size + 1, 1, none⟩ = some (.int .i64 (bh)) := by rw [hc1 _ _ (by first | omega | simp <;> omega)]; first | done | (simp [go_sem]; done) | assumption
  have y1r : w.heap.size + 1 + 1 < w1.heap.size := (by omega)
  have c1r_0 : w1.cell? ⟨w.heap.size + 1 + 1, 0, none⟩ = some (.int .i64 (0)) := by rw [hc1 _ _ (by first | omega | simp <;> omega)]; first | done | (simp [go_sem]; done) | assumption
  have r1r_0 : w1.frozen? ⟨w.heap.size + 1 + 1, 0, none⟩ = false := by rw [hf1 _ _ (by first | omega | simp <;> omega)]; first | done | (simp [go_sem]; done) | assumption
  have c1r_1 : w1.cell? ⟨w.heap.size + 1 + 1, 1, none⟩ = some (.int .i64 (0)) := by rw [hc1 _ _ (by first | omega | simp <;> omega)]; first | done | (simp [go_sem]; done) | assumption
  have r1r_1 : w1.frozen? ⟨w.heap.size + 1 + 1, 1, none⟩ = false := by rw [hf1 _ _ (by first | omega | simp <;> omega)]; first | done | (simp [go_sem]; done) | assumption
  have y1s : w.heap.size + 1 + 1 + 1 < w1.heap.size := (by omega)
  have c1s_0 : w1.cell? ⟨w.heap.size + 1 + 1 + 1, 0, none⟩ = some (.int .i64 (0)) := by rw [hc1 _ _ (by first | omega | simp <;> omega)]; first | done | (simp [go_sem]; done) | assumption
  have r1s_0 : w1.frozen? ⟨w.heap.size + 1 + 1 + 1, 0, none⟩ = false := by rw [hf1 _ _ (by first | omega | simp <;> omega)]; first | done | (simp [go_sem]; done) | assumption
  have c1s_1 : w1.cell? ⟨w.heap.size + 1 + 1 + 1, 1, none⟩ = some (.int .i64 (0)) := by rw [hc1 _ _ (by first | omega | simp <;> omega)]; first | done | (simp [go_sem]; done) | assumption
  have r1s_1 : w1.frozen? ⟨w.heap.size + 1 + 1 + 1, 1, none⟩ = false := by rw [hf1 _ _ (by first | omega | simp <;> omega)]; first | done | (simp [go_sem]; done) | assumption
  have y1n : w.heap.size + 1 + 1 + 1 + 1 < w1.heap.size := (by omega)
  have c1n_0 : w1.cell? ⟨w.heap.size + 1 + 1 + 1 + 1, 0, none⟩ = some (.int .i64 (0)) := by rw [hc1 _ _ (by first | omega | simp <;> omega)]; first | done | (simp [go_sem]; done) | assumption
  have c1n_1 : w1.cell? ⟨w.heap.size + 1 + 1 + 1 + 1, 1, none⟩ = some (.int .i64 (0)) := by rw [hc1 _ _ (by first | omega | simp <;> omega)]; first | done | (simp [go_sem]; done) | assumption
  clear hc1 hf1
  go_wp2_with fail
  refine (RefMeet_any _ _ _ _ _).mono ?_
  rw [HM2.out]
  (rintro e w2 ⟨rfl, hb⟩; obtain ⟨hc2, hf2⟩ := bcell hb; have hz2 := hb.size; (try simp at hz2); have HW2 := Lib.hid (show Below w.heap.size w w2 from Below.trans (by repeat' (first | with_reducible (first | exact HW1.out | apply bR | apply bD | apply bN | apply bA | apply bS) | (simp; done) | (simp; omega) | omega)) (hb.mono (by first | omega | simp <;> omega))); clear hb; (try have z20 : w.heap.size < w2.heap.size := by omega); (try have z21 : w.heap.size + 1 < w2.heap.size := by omega); (try have z22 : w.heap.size + 1 + 1 < w2.heap.size := by omega); (try have z23 : w.heap.size + 1 + 1 + 1 < w2.heap.size := by omega); (try have z24 : w.heap.size + 1 + 1 + 1 + 1 < w2.heap.size := by omega); (try have z25 : w.heap.size + 1 + 1 + 1 + 1 + 1 < w2.heap.size := by omega))
  have y2a : w.heap.size < w2.heap.size := (by omega)
  have c2a_0 : w2.cell? ⟨w.heap.size, 0, none⟩ = some (.int .i64 (al)) := by rw [hc2 _ _ (by first | omega | simp <;> omega)]; first | done | (simp [go_sem, c1a_0, y1a, y1b, y1r, y1s, y1n]; done) | assumption
  have r2a_0 : w2.frozen? ⟨w.heap.size, 0, none⟩ = false := by rw [hf2 _ _ (by first | omega | simp <;> omega)]; first | done | (simp [go_sem, r1a_0, y1a, y1b, y1r, y1s, y1n]; done) | assumption
  have c2a_1 : w2.cell? ⟨w.heap.size, 1, none⟩ = some (.int .i64 (ah)) := by rw [hc2 _ _ (by first | omega | simp <;> omega)]; first | done | (simp [go_sem, c1a_1, y1a, y1b, y1r, y1s, y1n]; done) | assumption
  have r2a_1 : w2.frozen? ⟨w.heap.size, 1, none⟩ = false := by rw [hf2 _ _ (by first | omega | simp <;> omega)]; first | done | (simp [go_sem, r1a_1, y1a, y1b, y1r, y1s, y1n]; done) | assumption
  have y2b : w.heap.size + 1 < w2.heap.size := (by omega)
  have c2b_0 : w2.cell? ⟨w.heap.size + 1, 0, none⟩ = some (.int .i64 (bl)) := by rw [hc2 _ _ (by first | omega | simp <;> omega)]; first | done | (simp [go_sem, c1b_0, y1a, y1b, y1r, y1s, y1n]; done) | assumption
  have c2b_1 : w2.cell? ⟨w.heap.size + 1, 1, none⟩ = some (.int .i64 (bh)) := by rw [hc2 _ _ (by first | omega | simp <;> omega)]; first | done | (simp [go_sem, c1b_1, y1a, y1b, y1r, y1s, y1n]; done) | assumption
  have y2r : w.heap.size + 1 + 1 < w2.heap.size := (by omega)
  have c2r_0 : w2.cell? ⟨w.heap.size + 1 + 1, 0, none⟩ = some (.int .i64 (0)) := by rw [hc2 _ _ (by first | omega | simp <;> omega)]; first | done | (simp [go_sem, c1r_0, y1a, y1b, y1r, y1s, y1n]; done) | assumption
  have r2r_0 : w2.frozen? ⟨w.heap.size + 1 + 1, 0, none⟩ = false := by rw [hf2 _ _ (by first | omega | simp <;> omega)]; first | done | (simp [go_sem, r1r_0, y1a, y1b, y1r, y1s, y1n]; done) | assumption
  have c2r_1 : w2.cell? ⟨w.heap.size + 1 + 1, 1, none⟩ = some (.int .i64 (0)) := by rw [hc2 _ _ (by first | omega | simp <;> omega)]; first | done | (simp [go_sem, c1r_1, y1a, y1b, y1r, y1s, y1n]; done) | assumption
  have r2r_1 : w2.frozen? ⟨w.heap.size + 1 + 1, 1, none⟩ = false := by rw [hf2 _ _ (by first | omega | simp <;> omega)]; first | done | (simp [go_sem, r1r_1, y1a, y1b, y1r, y1s, y1n]; done) | assumption
  have y2s : w.heap.size + 1 + 1 + 1 < w2.heap.size := (by omega)
  have c2s_0 : w2.cell? ⟨w.heap.size + 1 + 1 + 1, 0, none⟩ = some (.int .i64 (0)) := by rw [hc2 _ _ (by first | omega | simp <;> omega)]; first | done | (simp [go_sem, c1s_0, y1a, y1b, y1r, y1s, y1n]; done) | assumption
  have r2s_0 : w2.frozen? ⟨w.heap.size + 1 + 1 + 1, 0, none⟩ = false := by rw [hf2 _ _ (by first | omega | simp <;> omega)]; first | done | (simp [go_sem, r1s_0, y1a, y1b, y1r, y1s, y1n]; done) | assumption
  have c2s_1 : w2.cell? ⟨w.heap.size + 1 + 1 + 1, 1, none⟩ = some (.int .i64 (0)) := by rw [hc2 _ _ (by first | omega | simp <;> omega)]; first | done | (simp [go_sem, c1s_1, y1a, y1b, y1r, y1s, y1n]; done) | assumption
  have r2s_1 : w2.frozen? ⟨w.heap.size + 1 + 1 + 1, 1, none⟩ = false := by rw [hf2 _ _ (by first | omega | simp <;> omega)]; first | done | (simp [go_sem, r1s_1, y1a, y1b, y1r, y1s, y1n]; done) | assumption
  have y2n : w.heap.size + 1 + 1 + 1 + 1 < w2.heap.size := (by omega)
  have c2n_0 : w2.cell? ⟨w.heap.size + 1 + 1 + 1 + 1, 0, none⟩ = some (.int .i64 (0)) := by rw [hc2 _ _ (by first | omega | simp <;> omega)]; first | done | (simp [go_sem, c1n_0, y1a, y1b, y1r, y1s, y1n]; done) | assumption
  have c2n_1 : w2.cell? ⟨w.heap.size + 1 + 1 + 1 + 1, 1, none⟩ = some (.int .i64 (0)) := by rw [hc2 _ _ (by first | omega | simp <;> omega)]; first | done | (simp [go_sem, c1n_1, y1a, y1b, y1r, y1s, y1n]; done) | assumption
  have y2x : w1.heap.size < w2.heap.size := (by omega)
  have c2x_0 : w2.cell? ⟨w1.heap.size, 0, none⟩ = some (.int .i64 (m1l)) := by rw [hc2 _ _ (by first | omega | simp <;> omega)]; first | done | (simp [go_sem, y1a, y1b, y1r, y1s, y1n]; done) | assumption
  have c2x_1 : w2.cell? ⟨w1.heap.size, 1, none⟩ = some (.int .i64 (m1h)) := by rw [hc2 _ _ (by first | omega | simp <;> omega)]; first | done | (simp [go_sem, y1a, y1b, y1r, y1s, y1n]; done) | assumption
  clear hc2 hf2
  go_wp2_with fail
  go_region
  go_wp2_with fail
  exact bodyPost_ret (v := .tuple #[.agg #[.int .i64 (0), .int .i64 (0)], .agg #[.int .i64 (0), .int .i64 (0)], .bool (false)]) (by simp [results, Tryd.results78, go_sem, y2a, c2a_0, c2a_1, y2b, c2b_0, c2b_1, y2r, c2r_0, c2r_1, y2s, c2s_0, c2s_1, y2n, c2n_0, c2n_1, y2x, c2x_0, c2x_1]) rfl ⟨by first | rfl | (simp [bnil, bswap]; done), (by repeat' (first | with_reducible (first | exact HW2.out | apply bR | apply bD | apply bN | apply bA | apply bS) | (simp; done) | (simp; omega) | omega))⟩
 ·go_enter Tryd.func78, Tryd.ntmps78
  go_wp2_with fail
  go_quiet (fail)
  go_wp2_with fail
  refine (RefMeet_any _ _ _ _ _).mono ?_
  rw [HM1.out]
  (rintro e w1 ⟨rfl, hb⟩; obtain ⟨hc1, hf1⟩ := bcell hb; have hz1 := hb.size; (try simp at hz1); have HW1 := Lib.hid (show Below w.heap.size w w1 from Below.trans (by repeat' (first | with_reducible (first | exact HW0.out | apply bR | apply bD | apply bN | apply bA | apply bS) | (simp; done) | (simp; omega) | omega)) (hb.mono (by first | omega | simp <;> omega))); clear hb; (try have z10 : w.heap.size < w1.heap.size := by omega); (try have z11 : w.heap.size + 1 < w1.heap.size := by omega); (try have z12 : w.heap.size + 1 + 1 < w1.heap.size := by omega); (try have z13 : w.heap.size + 1 + 1 + 1 < w1.heap.size := by omega); (try have z14 : w.heap.size + 1 + 1 + 1 + 1 < w1.heap.size := by omega); (try have z15 : w.heap.size + 1 + 1 + 1 + 1 + 1 < w1.heap.size := by omega))
  have y1a : w.heap.size < w1.heap.size := (by omega)
  have c1a_0 : w1.cell? ⟨w.heap.size, 0, none⟩ = some (.int .i64 (al)) := by rw [hc1 _ _ (by first | omega | simp <;> omega)]; first | done | (simp [go_sem]; done) | assumption
  have r1a_0 : w1.frozen? ⟨w.heap.size, 0, none⟩ = false := by rw [hf1 _ _ (by first | omega | simp <;> omega)]; first | done | (simp [go_sem]; done) | assumption
  have c1a_1 : w1.cell? ⟨w.heap.size, 1, none⟩ = some (.int .i64 (ah)) := by rw [hc1 _ _ (by first | omega | simp <;> omega)]; first | done | (simp [go_sem]; done) | assumption
  have r1a_1 : w1.frozen? ⟨w.heap.size, 1, none⟩ = false := by rw [hf1 _ _ (by first | omega | simp <;> omega)]; first | done | (simp [go_sem]; done) | assumption
  have y1b : w.heap.size + 1 < w1.heap.size := (by omega)
  have c1b_0 : w1.cell? ⟨w.heap.size + 1, 0, none⟩ = some (.int .i64 (bl)) := by rw [hc1 _ _ (by first | omega | simp <;> omega)]; first | done | (simp [go_sem]; done) | assumption
  have c1b_1 : w1.cell? ⟨w.heap.size + 1, 1, none⟩ = some (.int .i64 (bh)) := by rw [hc1 _ _ (by first | omega | simp <;> omega)]; first | done | (simp [go_sem]; done) | assumption
  have y1r : w.heap.size + 1 + 1 < w1.heap.size := (by omega)
  have c1r_0 : w1.cell? ⟨w.heap.size + 1 + 1, 0, none⟩ = some (.int .i64 (0)) := by rw [hc1 _ _ (by first | omega | simp <;> omega)]; first | done | (simp [go_sem]; done) | assumption
  have r1r_0 : w1.frozen? ⟨w.heap.size + 1 + 1, 0, none⟩ = false := by rw [hf1 _ _ (by first | omega | simp <;> omega)]; first | done | (simp [go_sem]; done) | assumption
  have c1r_1 : w1.cell? ⟨w.heap.size + 1 + 1, 1, none⟩ = some (.int .i64 (0)) := by rw [hc1 _ _ (by first | omega | simp <;> omega)]; first | done | (simp [go_sem]; done) | assumption
  have r1r_1 : w1.frozen? ⟨w.heap.size + 1 + 1, 1, none⟩ = false := by rw [hf1 _ _ (by first | omega | simp <;> omega)]; first | done | (simp [go_sem]; done) | assumption
  have y1s : w.heap.size + 1 + 1 + 1 < w1.heap.size := (by omega)
  have c1s_0 : w1.cell? ⟨w.heap.size + 1 + 1 + 1, 0, none⟩ = some (.int .i64 (0)) := by rw [hc1 _ _ (by first | omega | simp <;> omega)]; first | done | (simp [go_sem]; done) | assumption
  have r1s_0 : w1.frozen? ⟨w.heap.size + 1 + 1 + 1, 0, none⟩ = false := by rw [hf1 _ _ (by first | omega | simp <;> omega)]; first | done | (simp [go_sem]; done) | assumption
  have c1s_1 : w1.cell? ⟨w.heap.size + 1 + 1 + 1, 1, none⟩ = some (.int .i64 (0)) := by rw [hc1 _ _ (by first | omega | simp <;> omega)]; first | done | (simp [go_sem]; done) | assumption
  have r1s_1 : w1.frozen? ⟨w.heap.size + 1 + 1 + 1, 1, none⟩ = false := by rw [hf1 _ _ (by first | omega | simp <;> omega)]; first | done | (simp [go_sem]; done) | assumption
  have y1n : w.heap.size + 1 + 1 + 1 + 1 < w1.heap.size := (by omega)
  have c1n_0 : w1.cell? ⟨w.heap.size + 1 + 1 + 1 + 1, 0, none⟩ = some (.int .i64 (0)) := by rw [hc1 _ _ (by first | omega | simp <;> omega)]; first | done | (simp [go_sem]; done) | assumption
  have c1n_1 : w1.cell? ⟨w.heap.size + 1 + 1 + 1 + 1, 1, none⟩ = some (.int .i64 (0)) := by rw [hc1 _ _ (by first | omega | simp <;> omega)]; first | done | (simp [go_sem]; done) | assumption
  clear hc1 hf1
  go_wp2_with fail
  refine (RefMeet_any _ _ _ _ _).mono ?_
  rw [HM2.out]
  (rintro e w2 ⟨rfl, hb⟩; obtain ⟨hc2, hf2⟩ := bcell hb; have hz2 := hb.size; (try simp at hz2); have HW2 := Lib.hid (show Below w.heap.size w w2 from Below.trans (by repeat' (first | with_reducible (first | exact HW1.out | apply bR | apply bD | apply bN | apply bA | apply bS) | (simp; done) | (simp; omega) | omega)) (hb.mono (by first | omega | simp <;> omega))); clear hb; (try have z20 : w.heap.size < w2.heap.size := by omega); (try have z21 : w.heap.size + 1 < w2.heap.size := by omega); (try have z22 : w.heap.size + 1 + 1 < w2.heap.size := by omega); (try have z23 : w.heap.size + 1 + 1 + 1 < w2.heap.size := by omega); (try have z24 : w.heap.size + 1 + 1 + 1 + 1 < w2.heap.size := by omega); (try have z25 : w.heap.size + 1 + 1 + 1 + 1 + 1 < w2.heap.size := by omega))
  have y2a : w.heap.size < w2.heap.size := (by omega)
  have c2a_0 : w2.cell? ⟨w.heap.size, 0, none⟩ = some (.int .i64 (al)) := by rw [hc2 _ _ (by first | omega | simp <;> omega)]; first | done | (simp [go_sem, c1a_0, y1a, y1b, y1r, y1s, y1n]; done) | assumption
  have r2a_0 : w2.frozen? ⟨w.heap.size, 0, none⟩ = false := by rw [hf2 _ _ (by first | omega | simp <;> omega)]; first | done | (simp [go_sem, r1a_0, y1a, y1b, y1r, y1s, y1n]; done) | assumption
  have c2a_1 : w2.cell? ⟨w.heap.size, 1, none⟩ = some (.int .i64 (ah)) := by rw [hc2 _ _ (by first | omega | simp <;> omega)]; first | done | (simp [go_sem, c1a_1, y1a, y1b, y1r, y1s, y1n]; done) | assumption
  have r2a_1 : w2.frozen? ⟨w.heap.size, 1, none⟩ = false := by rw [hf2 _ _ (by first | omega | simp <;> omega)]; first | done | (simp [go_sem, r1a_1, y1a, y1b, y1r, y1s, y1n]; done) | assumption
  have y2b : w.heap.size + 1 < w2.heap.size := (by omega)
  have c2b_0 : w2.cell? ⟨w.heap.size + 1, 0, none⟩ = some (.int .i64 (bl)) := by rw [hc2 _ _ (by first | omega | simp <;> omega)]; first | done | (simp [go_sem, c1b_0, y1a, y1b, y1r, y1s, y1n]; done) | assumption
  have c2b_1 : w2.cell? ⟨w.heap.size + 1, 1, none⟩ = some (.int .i64 (bh)) := by rw [hc2 _ _ (by first | omega | simp <;> omega)]; first | done | (simp [go_sem, c1b_1, y1a, y1b, y1r, y1s, y1n]; done) | assumption
  have y2r : w.heap.size + 1 + 1 < w2.heap.size := (by omega)
  have c2r_0 : w2.cell? ⟨w.heap.size + 1 + 1, 0, none⟩ = some (.int .i64 (0)) := by rw [hc2 _ _ (by first | omega | simp <;> omega)]; first | done | (simp [go_sem, c1r_0, y1a, y1b, y1r, y1s, y1n]; done) | assumption
  have r2r_0 : w2.frozen? ⟨w.heap.size + 1 + 1, 0, none⟩ = false := by rw [hf2 _ _ (by first | omega | simp <;> omega)]; first | done | (simp [go_sem, r1r_0, y1a, y1b, y1r, y1s, y1n]; done) | assumption
  have c2r_1 : w2.cell? ⟨w.heap.size + 1 + 1, 1, none⟩ = some (.int .i64 (0)) := by rw [hc2 _ _ (by first | omega | simp <;> omega)]; first | done | (simp [go_sem, c1r_1, y1a, y1b, y1r, y1s, y1n]; done) | assumption
  have r2r_1 : w2.frozen? ⟨w.heap.size + 1 + 1, 1, none⟩ = false := by rw [hf2 _ _ (by first | omega | simp <;> omega)]; first | done | (simp [go_sem, r1r_1, y1a, y1b, y1r, y1s, y1n]; done) | assumption
  have y2s : w.heap.size + 1 + 1 + 1 < w2.heap.size := (by omega)
  have c2s_0 : w2.cell? ⟨w.heap.size + 1 + 1 + 1, 0, none⟩ = some (.int .i64 (0)) := by rw [hc2 _ _ (by first | omega | simp <;> omega)]; first | done | (simp [go_sem, c1s_0, y1a, y1b, y1r, y1s, y1n]; done) | assumption
  have r2s_0 : w2.frozen? ⟨w.heap.size + 1 + 1 + 1, 0, none⟩ = false := by rw [hf2 _ _ (by first | omega | simp <;> omega)]; first | done | (simp [go_sem, r1s_0, y1a, y1b, y1r, y1s, y1n]; done) | assumption
  have c2s_1 : w2.cell? ⟨w.heap.size + 1 + 1 + 1, 1, none⟩ = some (.int .i64 (0)) := by rw [hc2 _ _ (by first | omega | simp <;> omega)]; first | done | (simp [go_sem, c1s_1, y1a, y1b, y1r, y1s, y1n]; done) | assumption
  have r2s_1 : w2.frozen? ⟨w.heap.size + 1 + 1 + 1, 1, none⟩ = false := by rw [hf2 _ _ (by first | omega | simp <;> omega)]; first | done | (simp [go_sem, r1s_1, y1a, y1b, y1r, y1s, y1n]; done) | assumption
  have y2n : w.heap.size + 1 + 1 + 1 + 1 < w2.heap.size := (by omega)
  have c2n_0 : w2.cell? ⟨w.heap.size + 1 + 1 + 1 + 1, 0, none⟩ = some (.int .i64 (0)) := by rw [hc2 _ _ (by first | omega | simp <;> omega)]; first | done | (simp [go_sem, c1n_0, y1a, y1b, y1r, y1s, y1n]; done) | assumption
  have c2n_1 : w2.cell? ⟨w.heap.size + 1 + 1 + 1 + 1, 1, none⟩ = some (.int .i64 (0)) := by rw [hc2 _ _ (by first | omega | simp <;> omega)]; first | done | (simp [go_sem, c1n_1, y1a, y1b, y1r, y1s, y1n]; done) | assumption
  have y2x : w1.heap.size < w2.heap.size := (by omega)
  have c2x_0 : w2.cell? ⟨w1.heap.size, 0, none⟩ = some (.int .i64 (m1l)) := by rw [hc2 _ _ (by first | omega | simp <;> omega)]; first | done | (simp [go_sem, y1a, y1b, y1r, y1s, y1n]; done) | assumption
  have c2x_1 : w2.cell? ⟨w1.heap.size, 1, none⟩ = some (.int .i64 (m1h)) := by rw [hc2 _ _ (by first | omega | simp <;> omega)]; first | done | (simp [go_sem, y1a, y1b, y1r, y1s, y1n]; done) | assumption
  clear hc2 hf2
  go_wp2_with fail
  go_region
  go_wp2_with fail
  exact bodyPost_ret (v := .tuple #[.agg #[.int .i64 (m1l), .int .i64 (m1h)], .agg #[.int .i64 (m2l), .int .i64 (m2h)], .bool (true)]) (by simp [results, Tryd.results78, go_sem, y2a, c2a_0, c2a_1, y2b, c2b_0, c2b_1, y2r, c2r_0, c2r_1, y2s, c2s_0, c2s_1, y2n, c2n_0, c2n_1, y2x, c2x_0, c2x_1]) rfl ⟨by first | rfl | (simp [bnil, bswap]; done), (by repeat' (first | with_reducible (first | exact HW2.out | apply bR | apply bD | apply bN | apply bA | apply bS) | (simp; done) | (simp; omega) | omega))⟩

set_option maxRecDepth 100000 in
set_option maxHeartbeats 4000000 in
theorem RefN_23 (al ah bl bh : Int) (ia : In64 al) (ia2 : In64 ah) (ib : In64 bl) (ib2 : In64 bh) (w : World) :
  Calls Tryd.prog 78 #[.int .i64 23, .agg #[.int .i64 al, .int .i64 ah], .agg #[.int .i64 bl, .int .i64 bh]] w fun e w' => e = .returned (.tuple #[.agg #[.int .i64 (bnarrow 23 ⟨al, ah⟩ ⟨bl, bh⟩).1.lo, .int .i64 (bnarrow 23 ⟨al, ah⟩ ⟨bl, bh⟩).1.hi], .agg #[.int .i64 (bnarrow 23 ⟨al, ah⟩ ⟨bl, bh⟩).2.1.lo, .int .i64 (bnarrow 23 ⟨al, ah⟩ ⟨bl, bh⟩).2.1.hi], .bool (bnarrow 23 ⟨al, ah⟩ ⟨bl, bh⟩).2.2]) ∧ Below w.heap.size w w' := by
 have HW0 := Lib.hid (Below.refl w.heap.size w)
 have e : bnarrow 23 ⟨al, ah⟩ ⟨bl, bh⟩ = bswap (bnarrow 21 ⟨bl, bh⟩ ⟨al, ah⟩) := rfl
 rw [e]
 have IA := Lib.hid ia; have IA2 := Lib.hid ia2; have IB := Lib.hid ib; have IB2 := Lib.hid ib2
 clear ia ia2 ib ib2 e
 generalize hr : bnarrow 21 ⟨bl, bh⟩ ⟨al, ah⟩ = r
 have HR := Lib.hid hr
 clear hr
 obtain ⟨⟨x1, x2⟩, ⟨x3, x4⟩, xb⟩ := r
 go_enter Tryd.func78, Tryd.ntmps78
 go_wp2_with fail
 refine (RefN_21 _ _ _ _ IB.out IB2.out IA.out IA2.out _).mono ?_
 rw [HR.out]
 (rintro e w1 ⟨rfl, hb⟩; obtain ⟨hc1, hf1⟩ := bcell hb; have hz1 := hb.size; (try simp at hz1); have HW1 := Lib.hid (show Below w.heap.size w w1 from Below.trans (by repeat' (first | with_reducible (first | exact HW0.out | apply bR | apply bD | apply bN | apply bA | apply bS) | (simp; done) | (simp; omega) | omega)) (hb.mono (by first | omega | simp <;> omega))); clear hb; (try have z10 : w.heap.size < w1.heap.size := by omega); (try have z11 : w.heap.size + 1 < w1.heap.size := by omega); (try have z12 : w.heap.size + 1 + 1 < w1.heap.size := by omega); (try have z13 : w.heap.size + 1 + 1 + 1 < w1.heap.size := by omega); (try have z14 : w.heap.size + 1 + 1 + 1 + 1 < w1.heap.size := by omega); (try have z15 : w.heap.size + 1 + 1 + 1 + 1 + 1 < w1.heap.size := by omega))
 have y1a : w.heap.size < w1.heap.size := (by omega)
 have c1a_0 : w1.cell? ⟨w.heap.size, 0, none⟩ = some (.int .i64 (al)) := by rw [hc1 _ _ (by first | omega | simp <;> omega)]; first | done | (simp [go_sem]; done) | assumption
 have r1a_0 : w1.frozen? ⟨w.heap.size, 0, none⟩ = false := by rw [hf1 _ _ (by first | omega | simp <;> omega)]; first | done | (simp [go_sem]; done) | assumption
 have c1a_1 : w1.cell? ⟨w.heap.size, 1, none⟩ = some (.int .i64 (ah)) := by rw [hc1 _ _ (by first | omega | simp <;> omega)]; first | done | (simp [go_sem]; done) | assumption
 have r1a_1 : w1.frozen? ⟨w.heap.size, 1, none⟩ = false := by rw [hf1 _ _ (by first | omega | simp <;> omega)]; first | done | (simp [go_sem]; done) | assumption
 have y1b : w.heap.size + 1 < w1.heap.size := (by omega)
 have c1b_0 : w1.cell? ⟨w.heap.size + 1, 0, none⟩ = some (.int .i64 (bl)) := by rw [hc1 _ _ (by first | omega | simp <;> omega)]; first | done | (simp [go_sem]; done) | assumption
 have c1b_1 : w1.cell? ⟨w.heap.size + 1, 1, none⟩ = some (.int .i64 (bh)) := by rw [hc1 _ _ (by first | omega | simp <;> omega)]; first | done | (simp [go_sem]; done) | assumption
 have y1r : w.heap.size + 1 + 1 < w1.heap.size := (by omega)
 have c1r_0 : w1.cell? ⟨w.heap.size + 1 + 1, 0, none⟩ = some (.int .i64 (0)) := by rw [hc1 _ _ (by first | omega | simp <;> omega)]; first | done | (simp [go_sem]; done) | assumption
 have r1r_0 : w1.frozen? ⟨w.heap.size + 1 + 1, 0, none⟩ = false := by rw [hf1 _ _ (by first | omega | simp <;> omega)]; first | done | (simp [go_sem]; done) | assumption
 have c1r_1 : w1.cell? ⟨w.heap.size + 1 + 1, 1, none⟩ = some (.int .i64 (0)) := by rw [hc1 _ _ (by first | omega | simp <;> omega)]; first | done | (simp [go_sem]; done) | assumption
 have r1r_1 : w1.frozen? ⟨w.heap.size + 1 + 1, 1, none⟩ = false := by rw [hf1 _ _ (by first | omega | simp <;> omega)]; first | done | (simp [go_sem]; done) | assumption
 have y1s : w.heap.size + 1 + 1 + 1 < w1.heap.size := (by omega)
 have c1s_0 : w1.cell? ⟨w.heap.size + 1 + 1 + 1, 0, none⟩ = some (.int .i64 (0)) := by rw [hc1 _ _ (by first | omega | simp <;> omega)]; first | done | (simp [go_sem]; done) | assumption
 have r1s_0 : w1.frozen? ⟨w.heap.size + 1 + 1 + 1, 0, none⟩ = false := by rw [hf1 _ _ (by first | omega | simp <;> omega)]; first | done | (simp [go_sem]; done) | assumption
 have c1s_1 : w1.cell? ⟨w.heap.size + 1 + 1 + 1, 1, none⟩ = some (.int .i64 (0)) := by rw [hc1 _ _ (by first | omega | simp <;> omega)]; first | done | (simp [go_sem]; done) | assumption
 have r1s_1 : w1.frozen? ⟨w.heap.size + 1 + 1 + 1, 1, none⟩ = false := by rw [hf1 _ _ (by first | omega | simp <;> omega)]; first | done | (simp [go_sem]; done) | assumption
 have y1n : w.heap.size + 1 + 1 + 1 + 1 < w1.heap.size := (by omega)
 have c1n_0 : w1.cell? ⟨w.heap.size + 1 + 1 + 1 + 1, 0, none⟩ = some (.int .i64 (0)) := by rw [hc1 _ _ (by first | omega | simp <;> omega)]; first | done | (simp [go_sem]; done) | assumption
 have c1n_1 : w1.cell? ⟨w.heap.size + 1 + 1 + 1 + 1, 1, none⟩ = some (.int .i64 (0)) := by rw [hc1 _ _ (by first | omega | simp <;> omega)]; first | done | (simp [go_sem]; done) | assumption
 clear hc1 hf1
 go_wp2_with fail
 go_region
 go_wp2_with fail
 exact bodyPost_ret (v := .tuple #[.agg #[.int .i64 (x3), .int .i64 (x4)], .agg #[.int .i64 (x1), .int .i64 (x2)], .bool (xb)]) (by simp [results, Tryd.results78, go_sem, y1a, c1a_0, c1a_1, y1b, c1b_0, c1b_1, y1r, c1r_0, c1r_1, y1s, c1s_0, c1s_1, y1n, c1n_0, c1n_1]) rfl ⟨by first | rfl | (simp [bnil, bswap]; done), (by repeat' (first | with_reducible (first | exact HW1.out | apply bR | apply bD | apply bN | apply bA | apply bS) | (simp; done) | (simp; omega) | omega))⟩

set_option maxRecDepth 100000 in
set_option maxHeartbeats 4000000 in
theorem RefN_24 (al ah bl bh : Int) (ia : In64 al) (ia2 : In64 ah) (ib : In64 bl) (ib2 : In64 bh) (w : World) :
  Calls Tryd.prog 78 #[.int .i64 24, .agg #[.int .i64 al, .int .i64 ah], .agg #[.int .i64 bl, .int .i64 bh]] w fun e w' => e = .returned (.tuple #[.agg #[.int .i64 (bnarrow 24 ⟨al, ah⟩ ⟨bl, bh⟩).1.lo, .int .i64 (bnarrow 24 ⟨al, ah⟩ ⟨bl, bh⟩).1.hi], .agg #[.int .i64 (bnarrow 24 ⟨al, ah⟩ ⟨bl, bh⟩).2.1.lo, .int .i64 (bnarrow 24 ⟨al, ah⟩ ⟨bl, bh⟩).2.1.hi], .bool (bnarrow 24 ⟨al, ah⟩ ⟨bl, bh⟩).2.2]) ∧ Below w.heap.size w w' := by
 have HW0 := Lib.hid (Below.refl w.heap.size w)
 have e : bnarrow 24 ⟨al, ah⟩ ⟨bl, bh⟩ = bswap (bnarrow 22 ⟨bl, bh⟩ ⟨al, ah⟩) := rfl
 rw [e]
 have IA := Lib.hid ia; have IA2 := Lib.hid ia2; have IB := Lib.hid ib; have IB2 := Lib.hid ib2
 clear ia ia2 ib ib2 e
 generalize hr : bnarrow 22 ⟨bl, bh⟩ ⟨al, ah⟩ = r
 have HR := Lib.hid hr
 clear hr
 obtain ⟨⟨x1, x2⟩, ⟨x3, x4⟩, xb⟩ := r
 go_enter Tryd.func78, Tryd.ntmps78
 go_wp2_with fail
 refine (RefN_22 _ _ _ _ IB.out IB2.out IA.out IA2.out _).mono ?_
 rw [HR.out]
 (rintro e w1 ⟨rfl, hb⟩; obtain ⟨hc1, hf1⟩ := bcell hb; have hz1 := hb.size; (try simp at hz1); have HW1 := Lib.hid (show Below w.heap.size w w1 from Below.trans (by repeat' (first | with_reducible (first | exact HW0.out | apply bR | apply bD | apply bN | apply bA | apply bS) | (simp; done) | (simp; omega) | omega)) (hb.mono (by first | omega | simp <;> omega))); clear hb; (try have z10 : w.heap.size < w1.heap.size := by omega); (try have z11 : w.heap.size + 1 < w1.heap.size := by omega); (try have z12 : w.heap.size + 1 + 1 < w1.heap.size := by omega); (try have z13 : w.heap.size + 1 + 1 + 1 < w1.heap.size := by omega); (try have z14 : w.heap.size + 1 + 1 + 1 + 1 < w1.heap.size := by omega); (try have z15 : w.heap.size + 1 + 1 + 1 + 1 + 1 < w1.heap.size := by omega))
 have y1a : w.heap.size < w1.heap.size := (by omega)
 have c1a_0 : w1.cell? ⟨w.heap.size, 0, none⟩ = some (.int .i64 (al)) := by rw [hc1 _ _ (by first | omega | simp <;> omega)]; first | done | (simp [go_sem]; done) | assumption
 have r1a_0 : w1.frozen? ⟨w.heap.size, 0, none⟩ = false := by rw [hf1 _ _ (by first | omega | simp <;> omega)]; first | done | (simp [go_sem]; done) | assumption
 have c1a_1 : w1.cell? ⟨w.heap.size, 1, none⟩ = some (.int .i64 (ah)) := by rw [hc1 _ _ (by first | omega | simp <;> omega)]; first | done | (simp [go_sem]; done) | assumption
 have r1a_1 : w1.frozen? ⟨w.heap.size, 1, none⟩ = false := by rw [hf1 _ _ (by first | omega | simp <;> omega)]; first | done | (simp [go_sem]; done) | assumption
 have y1b : w.heap.size + 1 < w1.heap.size := (by omega)
 have c1b_0 : w1.cell? ⟨w.heap.size + 1, 0, none⟩ = some (.int .i64 (bl)) := by rw [hc1 _ _ (by first | omega | simp <;> omega)]; first | done | (simp [go_sem]; done) | assumption
 have c1b_1 : w1.cell? ⟨w.heap.size + 1, 1, none⟩ = some (.int .i64 (bh)) := by rw [hc1 _ _ (by first | omega | simp <;> omega)]; first | done | (simp [go_sem]; done) | assumption
 have y1r : w.heap.size + 1 + 1 < w1.heap.size := (by omega)
 have c1r_0 : w1.cell? ⟨w.heap.size + 1 + 1, 0, none⟩ = some (.int .i64 (0)) := by rw [hc1 _ _ (by first | omega | simp <;> omega)]; first | done | (simp [go_sem]; done) | assumption
 have r1r_0 : w1.frozen? ⟨w.heap.size + 1 + 1, 0, none⟩ = false := by rw [hf1 _ _ (by first | omega | simp <;> omega)]; first | done | (simp [go_sem]; done) | assumption
 have c1r_1 : w1.cell? ⟨w.heap.size + 1 + 1, 1, none⟩ = some (.int .i64 (0)) := by rw [hc1 _ _ (by first | omega | simp <;> omega)]; first | done | (simp [go_sem]; done) | assumption
 have r1r_1 : w1.frozen? ⟨w.heap.size + 1 + 1, 1, none⟩ = false := by rw [hf1 _ _ (by first | omega | simp <;> omega)]; first | done | (simp [go_sem]; done) | assumption
 have y1s : w.heap.size + 1 + 1 + 1 < w1.heap.size := (by omega)
 have c1s_0 : w1.cell? ⟨w.heap.size + 1 + 1 + 1, 0, none⟩ = some (.int .i64 (0)) := by rw [hc1 _ _ (by first | omega | simp <;> omega)]; first | done | (simp [go_sem]; done) | assumption
 have r1s_0 : w1.frozen? ⟨w.heap.size + 1 + 1 + 1, 0, none⟩ = false := by rw [hf1 _ _ (by first | omega | simp <;> omega)]; first | done | (simp [go_sem]; done) | assumption
 have c1s_1 : w1.cell? ⟨w.heap.size + 1 + 1 + 1, 1, none⟩ = some (.int .i64 (0)) := by rw [hc1 _ _ (by first | omega | simp <;> omega)]; first | done | (simp [go_sem]; done) | assumption
 have r1s_1 : w1.frozen? ⟨w.heap.size + 1 + 1 + 1, 1, none⟩ = false := by rw [hf1 _ _ (by first | omega | simp <;> omega)]; first | done | (simp [go_sem]; done) | assumption
 have y1n : w.heap.size + 1 + 1 + 1 + 1 < w1.heap.size := (by omega)
 have c1n_0 : w1.cell? ⟨w.heap.size + 1 + 1 + 1 + 1, 0, none⟩ = some (.int .i64 (0)) := by rw [hc1 _ _ (by first | omega | simp <;> omega)]; first | done | (simp [go_sem]; done) | assumption
 have c1n_1 : w1.cell? ⟨w.heap.size + 1 + 1 + 1 + 1, 1, none⟩ = some (.int .i64 (0)) := by rw [hc1 _ _ (by first | omega | simp <;> omega)]; first | done | (simp [go_sem]; done) | assumption
 clear hc1 hf1
 go_wp2_with fail
 go_region
 go_wp2_with fail
 exact bodyPost_ret (v := .tuple #[.agg #[.int .i64 (x3), .int .i64 (x4)], .agg #[.int .i64 (x1), .int .i64 (x2)], .bool (xb)]) (by simp [results, Tryd.results78, go_sem, y1a, c1a_0, c1a_1, y1b, c1b_0, c1b_1, y1r, c1r_0, c1r_1, y1s, c1s_0, c1s_1, y1n, c1n_0, c1n_1]) rfl ⟨by first | rfl | (simp [bnil, bswap]; done), (by repeat' (first | with_reducible (first | exact HW1.out | apply bR | apply bD | apply bN | apply bA | apply bS) | (simp; done) | (simp; omega) | omega))⟩

set_option maxRecDepth 100000 in
set_option maxHeartbeats 4000000 in
theorem RefN_19 (al ah bl bh : Int) (ia : In64 al) (ia2 : In64 ah) (ib : In64 bl) (ib2 : In64 bh) (w : World) :
  Calls Tryd.prog 78 #[.int .i64 19, .agg #[.int .i64 al, .int .i64 ah], .agg #[.int .i64 bl, .int .i64 bh]] w fun e w' => e = .returned (.tuple #[.agg #[.int .i64 (bnarrow 19 ⟨al, ah⟩ ⟨bl, bh⟩).1.lo, .int .i64 (bnarrow 19 ⟨al, ah⟩ ⟨bl, bh⟩).1.hi], .agg #[.int .i64 (bnarrow 19 ⟨al, ah⟩ ⟨bl, bh⟩).2.1.lo, .int .i64 (bnarrow 19 ⟨al, ah⟩ ⟨bl, bh⟩).2.1.hi], .bool (bnarrow 19 ⟨al, ah⟩ ⟨bl, bh⟩).2.2]) ∧ Below w.heap.size w w' := by
 have HW0 := Lib.hid (Below.refl w.heap.size w)
 by_cases h0 : bl < 0
 ·have e : bnarrow 19 ⟨al, ah⟩ ⟨bl, bh⟩ = (⟨al, ah⟩, ⟨bl, bh⟩, true) := by show bunsigned _ _ _ = _; unfold bunsigned; rw [if_pos h0]
  rw [e]
  clear ia ia2 ib ib2 e
  go_enter Tryd.func78, Tryd.ntmps78
  go_wp2_with fail
  go_region
  go_wp2_with fail
  exact bodyPost_ret (v := .tuple #[.agg #[.int .i64 (al), .int .i64 (ah)], .agg #[.int .i64 (bl), .int .i64 (bh)], .bool (true)]) (by simp [results, Tryd.results78, go_sem]) rfl ⟨by first | rfl | (simp [bnil, bswap]; done), (by repeat' (first | with_reducible (first | exact HW0.out | apply bR | apply bD | apply bN | apply bA | apply bS) | (simp; done) | (simp; omega) | omega))⟩
 ·generalize hm1 : bmeet ⟨al, ah⟩ ⟨0, 9223372036854775807⟩ = m1
  have HM := Lib.hid hm1
  obtain ⟨⟨m1l, m1h⟩, m1b⟩ := m1
  cases m1b
  ·have e : bnarrow 19 ⟨al, ah⟩ ⟨bl, bh⟩ = (bnil, bnil, false) := by show bunsigned _ _ _ = _; unfold bunsigned; rw [if_neg h0, hm1]; rfl
   rw [e]
   clear ia ia2 ib ib2 e hm1
   go_enter Tryd.func78, Tryd.ntmps78
   go_wp2_with fail
   refine (RefMeet_any _ _ _ _ _).mono ?_
   rw [HM.out]
   (rintro e w1 ⟨rfl, hb⟩; obtain ⟨hc1, hf1⟩ := bcell hb; have hz1 := hb.size; (try simp at hz1); have HW1 := Lib.hid (show Below w.heap.size w w1 from Below.trans (by repeat' (first | with_reducible (first | exact HW0.out | apply bR | apply bD | apply bN | apply bA | apply bS) | (simp; done) | (simp; omega) | omega)) (hb.mono (by first | omega | simp <;> omega))); clear hb; (try have z10 : w.heap.size < w1.heap.size := by omega); (try have z11 : w.heap.size + 1 < w1.heap.size := by omega); (try have z12 : w.heap.size + 1 + 1 < w1.heap.size := by omega); (try have z13 : w.heap.size + 1 + 1 + 1 < w1.heap.size := by omega); (try have z14 : w.heap.size + 1 + 1 + 1 + 1 < w1.heap.size := by omega); (try have z15 : w.heap.size + 1 + 1 + 1 + 1 + 1 < w1.heap.size := by omega))
   have y1a : w.heap.size < w1.heap.size := (by omega)
   have c1a_0 : w1.cell? ⟨w.heap.size, 0, none⟩ = some (.int .i64 (al)) := by rw [hc1 _ _ (by first | omega | simp <;> omega)]; first | done | (simp [go_sem]; done) | assumption
   have r1a_0 : w1.frozen? ⟨w.heap.size, 0, none⟩ = false := by rw [hf1 _ _ (by first | omega | simp <;> omega)]; first | done | (simp [go_sem]; done) | assumption
   have c1a_1 : w1.cell? ⟨w.heap.size, 1, none⟩ = some (.int .i64 (ah)) := by rw [hc1 _ _ (by first | omega | simp <;> omega)]; first | done | (simp [go_sem]; done) | assumption
   have r1a_1 : w1.frozen? ⟨w.heap.size, 1, none⟩ = false := by rw [hf1 _ _ (by first | omega | simp <;> omega)]; first | done | (simp [go_sem]; done) | assumption
   have y1b : w.heap.size + 1 < w1.heap.size := (by omega)
   have c1b_0 : w1.cell? ⟨w.heap.size + 1, 0, none⟩ = some (.int .i64 (bl)) := by rw [hc1 _ _ (by first | omega | simp <;> omega)]; first | done | (simp [go_sem]; done) | assumption
   have c1b_1 : w1.cell? ⟨w.heap.size + 1, 1, none⟩ = some (.int .i64 (bh)) := by rw [hc1 _ _ (by first | omega | simp <;> omega)]; first | done | (simp [go_sem]; done) | assumption
   have y1r : w.heap.size + 1 + 1 < w1.heap.size := (by omega)
   have c1r_0 : w1.cell? ⟨w.heap.size + 1 + 1, 0, none⟩ = some (.int .i64 (0)) := by rw [hc1 _ _ (by first | omega | simp <;> omega)]; first | done | (simp [go_sem]; done) | assumption
   have r1r_0 : w1.frozen? ⟨w.heap.size + 1 + 1, 0, none⟩ = false := by rw [hf1 _ _ (by first | omega | simp <;> omega)]; first | done | (simp [go_sem]; done) | assumption
   have c1r_1 : w1.cell? ⟨w.heap.size + 1 + 1, 1, none⟩ = some (.int .i64 (0)) := by rw [hc1 _ _ (by first | omega | simp <;> omega)]; first | done | (simp [go_sem]; done) | assumption
   have r1r_1 : w1.frozen? ⟨w.heap.size + 1 + 1, 1, none⟩ = false := by rw [hf1 _ _ (by first | omega | simp <;> omega)]; first | done | (simp [go_sem]; done) | assumption
   have y1s : w.heap.size + 1 + 1 + 1 < w1.heap.size := (by omega)
   have c1s_0 : w1.cell? ⟨w.heap.size + 1 + 1 + 1, 0, none⟩ = some (.int .i64 (0)) := by rw [hc1 _ _ (by first | omega | simp <;> omega)]; first | done | (simp [go_sem]; done) | assumption
   have r1s_0 : w1.frozen? ⟨w.heap.size + 1 + 1 + 1, 0, none⟩ = false := by rw [hf1 _ _ (by first | omega | simp <;> omega)]; first | done | (simp [go_sem]; done) | assumption
   have c1s_1 : w1.cell? ⟨w.heap.size + 1 + 1 + 1, 1, none⟩ = some (.int .i64 (0)) := by rw [hc1 _ _ (by first | omega | simp <;> omega)]; first | done | (simp [go_sem]; done) | assumption
   have r1s_1 : w1.frozen? ⟨w.heap.size + 1 + 1 + 1, 1, none⟩ = false := by rw [hf1 _ _ (by first | omega | simp <;> omega)]; first | done | (simp [go_sem]; done) | assumption
   have y1n : w.heap.size + 1 + 1 + 1 + 1 < w1.heap.size := (by omega)
   have c1n_0 : w1.cell? ⟨w.heap.size + 1 + 1 + 1 + 1, 0, none⟩ = some (.int .i64 (0)) := by rw [hc1 _ _ (by first | omega | simp <;> omega)]; first | done | (simp [go_sem]; done) | assumption
   have c1n_1 : w1.cell? ⟨w.heap.size + 1 + 1 + 1 + 1, 1, none⟩ = some (.int .i64 (0)) := by rw [hc1 _ _ (by first | omega | simp <;> omega)]; first | done | (simp [go_sem]; done) | assumption
   clear hc1 hf1
   go_wp2_with fail
   go_region
   go_wp2_with fail
   exact bodyPost_ret (v := .tuple #[.agg #[.int .i64 (0), .int .i64 (0)], .agg #[.int .i64 (0), .int .i64 (0)], .bool (false)]) (by simp [results, Tryd.results78, go_sem, y1a, c1a_0, c1a_1, y1b, c1b_0, c1b_1, y1r, c1r_0, c1r_1, y1s, c1s_0, c1s_1, y1n, c1n_0, c1n_1]) rfl ⟨by first | rfl | (simp [bnil, bswap]; done), (by repeat' (first | with_reducible (first | exact HW1.out | apply bR | apply bD | apply bN | apply bA | apply bS) | (simp; done) | (simp; omega) | omega))⟩
  ·have e : bnarrow 19 ⟨al, ah⟩ ⟨bl, bh⟩ = bswap (bnarrow 21 ⟨bl, bh⟩ ⟨m1l, m1h⟩) := by show bunsigned _ _ _ = _; unfold bunsigned; rw [if_neg h0, hm1]; rfl
   rw [e]
   have hmo := bmeet_ok (a := ⟨al, ah⟩) (b := ⟨0, 9223372036854775807⟩) ⟨ia, ia2⟩ (by unfold B.In In64; simp) (by rw [hm1])
   rw [hm1] at hmo
   have IM := Lib.hid hmo.1; have IM2 := Lib.hid hmo.2.1; have IB := Lib.hid ib; have IB2 := Lib.hid ib2
   clear ia ia2 ib ib2 e hm1 hmo
   generalize hr : bnarrow 21 ⟨bl, bh⟩ ⟨m1l, m1h⟩ = r
   have HR := Lib.hid hr
   clear hr
   obtain ⟨⟨x1, x2⟩, ⟨x3, x4⟩, xb⟩ := r
   go_enter Tryd.func78, Tryd.ntmps78
   go_wp2_with fail
   refine (RefMeet_any _ _ _ _ _).mono ?_
   rw [HM.out]
   (rintro e w1 ⟨rfl, hb⟩; obtain ⟨hc1, hf1⟩ := bcell hb; have hz1 := hb.size; (try simp at hz1); have HW1 := Lib.hid (show Below w.heap.size w w1 from Below.trans (by repeat' (first | with_reducible (first | exact HW0.out | apply bR | apply bD | apply bN | apply bA | apply bS) | (simp; done) | (simp; omega) | omega)) (hb.mono (by first | omega | simp <;> omega))); clear hb; (try have z10 : w.heap.size < w1.heap.size := by omega); (try have z11 : w.heap.size + 1 < w1.heap.size := by omega); (try have z12 : w.heap.size + 1 + 1 < w1.heap.size := by omega); (try have z13 : w.heap.size + 1 + 1 + 1 < w1.heap.size := by omega); (try have z14 : w.heap.size + 1 + 1 + 1 + 1 < w1.heap.size := by omega); (try have z15 : w.heap.size + 1 + 1 + 1 + 1 + 1 < w1.heap.size := by omega))
   have y1a : w.heap.size < w1.heap.size := (by omega)
   have c1a_0 : w1.cell? ⟨w.heap.size, 0, none⟩ = some (.int .i64 (al)) := by rw [hc1 _ _ (by first | omega | simp <;> omega)]; first | done | (simp [go_sem]; done) | assumption
   have r1a_0 : w1.frozen? ⟨w.heap.size, 0, none⟩ = false := by rw [hf1 _ _ (by first | omega | simp <;> omega)]; first | done | (simp [go_sem]; done) | assumption
   have c1a_1 : w1.cell? ⟨w.heap.size, 1, none⟩ = some (.int .i64 (ah)) := by rw [hc1 _ _ (by first | omega | simp <;> omega)]; first | done | (simp [go_sem]; done) | assumption
   have r1a_1 : w1.frozen? ⟨w.heap.size, 1, none⟩ = false := by rw [hf1 _ _ (by first | omega | simp <;> omega)]; first | done | (simp [go_sem]; done) | assumption
   have y1b : w.heap.size + 1 < w1.heap.size := (by omega)
   have c1b_0 : w1.cell? ⟨w.heap.size + 1, 0, none⟩ = some (.int .i64 (bl)) := by rw [hc1 _ _ (by first | omega | simp <;> omega)]; first | done | (simp [go_sem]; done) | assumption
   have c1b_1 : w1.cell? ⟨w.heap.size + 1, 1, none⟩ = some (.int .i64 (bh)) := by rw [hc1 _ _ (by first | omega | simp <;> omega)]; first | done | (simp [go_sem]; done) | assumption
   have y1r : w.heap.size + 1 + 1 < w1.heap.size := (by omega)
   have c1r_0 : w1.cell? ⟨w.heap.size + 1 + 1, 0, none⟩ = some (.int .i64 (0)) := by rw [hc1 _ _ (by first | omega | simp <;> omega)]; first | done | (simp [go_sem]; done) | assumption
   have r1r_0 : w1.frozen? ⟨w.heap.size + 1 + 1, 0, none⟩ = false := by rw [hf1 _ _ (by first | omega | simp <;> omega)]; first | done | (simp [go_sem]; done) | assumption
   have c1r_1 : w1.cell? ⟨w.heap.size + 1 + 1, 1, none⟩ = some (.int .i64 (0)) := by rw [hc1 _ _ (by first | omega | simp <;> omega)]; first | done | (simp [go_sem]; done) | assumption
   have r1r_1 : w1.frozen? ⟨w.heap.size + 1 + 1, 1, none⟩ = false := by rw [hf1 _ _ (by first | omega | simp <;> omega)]; first | done | (simp [go_sem]; done) | assumption
   have y1s : w.heap.size + 1 + 1 + 1 < w1.heap.size := (by omega)
   have c1s_0 : w1.cell? ⟨w.heap.size + 1 + 1 + 1, 0, none⟩ = some (.int .i64 (0)) := by rw [hc1 _ _ (by first | omega | simp <;> omega)]; first | done | (simp [go_sem]; done) | assumption
   have r1s_0 : w1.frozen? ⟨w.heap.size + 1 + 1 + 1, 0, none⟩ = false := by rw [hf1 _ _ (by first | omega | simp <;> omega)]; first | done | (simp [go_sem]; done) | assumption
   have c1s_1 : w1.cell? ⟨w.heap.size + 1 + 1 + 1, 1, none⟩ = some (.int .i64 (0)) := by rw [hc1 _ _ (by first | omega | simp <;> omega)]; first | done | (simp [go_sem]; done) | assumption
   have r1s_1 : w1.frozen? ⟨w.heap.size + 1 + 1 + 1, 1, none⟩ = false := by rw [hf1 _ _ (by first | omega | simp <;> omega)]; first | done | (simp [go_sem]; done) | assumption
   have y1n : w.heap.size + 1 + 1 + 1 + 1 < w1.heap.size := (by omega)
   have c1n_0 : w1.cell? ⟨w.heap.size + 1 + 1 + 1 + 1, 0, none⟩ = some (.int .i64 (0)) := by rw [hc1 _ _ (by first | omega | simp <;> omega)]; first | done | (simp [go_sem]; done) | assumption
   have c1n_1 : w1.cell? ⟨w.heap.size + 1 + 1 + 1 + 1, 1, none⟩ = some (.int .i64 (0)) := by rw [hc1 _ _ (by first | omega | simp <;> omega)]; first | done | (simp [go_sem]; done) | assumption
   clear hc1 hf1
   go_wp2_with fail
   refine (RefN_21 _ _ _ _ IB.out IB2.out IM.out IM2.out _).mono ?_
   rw [HR.out]
   (rintro e w2 ⟨rfl, hb⟩; obtain ⟨hc2, hf2⟩ := bcell hb; have hz2 := hb.size; (try simp at hz2); have HW2 := Lib.hid (show Below w.heap.size w w2 from Below.trans (by repeat' (first | with_reducible (first | exact HW1.out | apply bR | apply bD | apply bN | apply bA | apply bS) | (simp; done) | (simp; omega) | omega)) (hb.mono (by first | omega | simp <;> omega))); clear hb; (try have z20 : w.heap.size < w2.heap.size := by omega); (try have z21 : w.heap.size + 1 < w2.heap.size := by omega); (try have z22 : w.heap.size + 1 + 1 < w2.heap.size := by omega); (try have z23 : w.heap.size + 1 + 1 + 1 < w2.heap.size := by omega); (try have z24 : w.heap.size + 1 + 1 + 1 + 1 < w2.heap.size := by omega); (try have z25 : w.heap.size + 1 + 1 + 1 + 1 + 1 < w2.heap.size := by omega))
   have y2a : w.heap.size < w2.heap.size := (by omega)
   have c2a_0 : w2.cell? ⟨w.heap.size, 0, none⟩ = some (.int .i64 (m1l)) := by rw [hc2 _ _ (by first | omega | simp <;> omega)]; first | done | (simp [go_sem, c1a_0, y1a, y1b, y1r, y1s, y1n]; done) | assumption
   have c2a_1 : w2.cell? ⟨w.heap.size, 1, none⟩ = some (.int .i64 (m1h)) := by rw [hc2 _ _ (by first | omega | simp <;> omega)]; first | done | (simp [go_sem, c1a_1, y1a, y1b, y1r, y1s, y1n]; done) | assumption
   have y2b : w.heap.size + 1 < w2.heap.size := (by omega)
   have c2b_0 : w2.cell? ⟨w.heap.size + 1, 0, none⟩ = some (.int .i64 (bl)) := by rw [hc2 _ _ (by first | omega | simp <;> omega)]; first | done | (simp [go_sem, c1b_0, y1a, y1b, y1r, y1s, y1n]; done) | assumption
   have c2b_1 : w2.cell? ⟨w.heap.size + 1, 1, none⟩ = some (.int .i64 (bh)) := by rw [hc2 _ _ (by first | omega | simp <;> omega)]; first | done | (simp [go_sem, c1b_1, y1a, y1b, y1r, y1s, y1n]; done) | assumption
   have y2r : w.heap.size + 1 + 1 < w2.heap.size := (by omega)
   have c2r_0 : w2.cell? ⟨w.heap.size + 1 + 1, 0, none⟩ = some (.int .i64 (0)) := by rw [hc2 _ _ (by first | omega | simp <;> omega)]; first | done | (simp [go_sem, c1r_0, y1a, y1b, y1r, y1s, y1n]; done) | assumption
   have r2r_0 : w2.frozen? ⟨w.heap.size + 1 + 1, 0, none⟩ = false := by rw [hf2 _ _ (by first | omega | simp <;> omega)]; first | done | (simp [go_sem, r1r_0, y1a, y1b, y1r, y1s, y1n]; done) | assumption
   have c2r_1 : w2.cell? ⟨w.heap.size + 1 + 1, 1, none⟩ = some (.int .i64 (0)) := by rw [hc2 _ _ (by first | omega | simp <;> omega)]; first | done | (simp [go_sem, c1r_1, y1a, y1b, y1r, y1s, y1n]; done) | assumption
   have r2r_1 : w2.frozen? ⟨w.heap.size + 1 + 1, 1, none⟩ = false := by rw [hf2 _ _ (by first | omega | simp <;> omega)]; first | done | (simp [go_sem, r1r_1, y1a, y1b, y1r, y1s, y1n]; done) | assumption
   have y2s : w.heap.size + 1 + 1 + 1 < w2.heap.size := (by omega)
   have c2s_0 : w2.cell? ⟨w.heap.size + 1 + 1 + 1, 0, none⟩ = some (.int .i64 (0)) := by rw [hc2 _ _ (by first | omega | simp <;> omega)]; first | done | (simp [go_sem, c1s_0, y1a, y1b, y1r, y1s, y1n]; done) | assumption
   have r2s_0 : w2.frozen? ⟨w.heap.size + 1 + 1 + 1, 0, none⟩ = false := by rw [hf2 _ _ (by first | omega | simp <;> omega)]; first | done | (simp [go_sem, r1s_0, y1a, y1b, y1r, y1s, y1n]; done) | assumption
   have c2s_1 : w2.cell? ⟨w.heap.size + 1 + 1 + 1, 1, none⟩ = some (.int .i64 (0)) := by rw [hc2 _ _ (by first | omega | simp <;> omega)]; first | done | (simp [go_sem, c1s_1, y1a, y1b, y1r, y1s, y1n]; done) | assumption
   have r2s_1 : w2.frozen? ⟨w.heap.size + 1 + 1 + 1, 1, none⟩ = false := by rw [hf2 _ _ (by first | omega | simp <;> omega)]; first | done | (simp [go_sem, r1s_1, y1a, y1b, y1r, y1s, y1n]; done) | assumption
   clear hc2 hf2
   go_wp2_with fail
   go_region
   go_wp2_with fail
   exact bodyPost_ret (v := .tuple #[.agg #[.int .i64 (x3), .int .i64 (x4)], .agg #[.int .i64 (x1), .int .i64 (x2)], .bool (xb)]) (by simp [results, Tryd.results78, go_sem, y2a, c2a_0, c2a_1, y2b, c2b_0, c2b_1, y2r, c2r_0, c2r_1, y2s, c2s_0, c2s_1]) rfl ⟨by first | rfl | (simp [bnil, bswap]; done), (by repeat' (first | with_reducible (first | exact HW2.out | apply bR | apply bD | apply bN | apply bA | apply bS) | (simp; done) | (simp; omega) | omega))⟩

set_option maxRecDepth 100000 in
set_option maxHeartbeats 4000000 in
theorem RefN_20 (al ah bl bh : Int) (ia : In64 al) (ia2 : In64 ah) (ib : In64 bl) (ib2 : In64 bh) (w : World) :
  Calls Tryd.prog 78 #[.int .i64 20, .agg #[.int .i64 al, .int .i64 ah], .agg #[.int .i64 bl, .int .i64 bh]] w fun e w' => e = .returned (.tuple #[.agg #[.int .i64 (bnarrow 20 ⟨al, ah⟩ ⟨bl, bh⟩).1.lo, .int .i64 (bnarrow 20 ⟨al, ah⟩ ⟨bl, bh⟩).1.hi], .agg #[.int .i64 (bnarrow 20 ⟨al, ah⟩ ⟨bl, bh⟩).2.1.lo, .int .i64 (bnarrow 20 ⟨al, ah⟩ ⟨bl, bh⟩).2.1.hi], .bool (bnarrow 20 ⟨al, ah⟩ ⟨bl, bh⟩).2.2]) ∧ Below w.heap.size w w' := by
 have HW0 := Lib.hid (Below.refl w.heap.size w)
 by_cases h0 : bl < 0
 ·have e : bnarrow 20 ⟨al, ah⟩ ⟨bl, bh⟩ = (⟨al, ah⟩, ⟨bl, bh⟩, true) := by show bunsigned _ _ _ = _; unfold bunsigned; rw [if_pos h0]
  rw [e]
  clear ia ia2 ib ib2 e
  go_enter Tryd.func78, Tryd.ntmps78
  go_wp2_with fail
  go_region
  go_wp2_with fail
  exact bodyPost_ret (v := .tuple #[.agg #[.int .i64 (al), .int .i64 (ah)], .agg #[.int .i64 (bl), .int .i64 (bh)], .bool (true)]) (by simp [results, Tryd.results78, go_sem]) rfl ⟨by first | rfl | (simp [bnil, bswap]; done), (by repeat' (first | with_reducible (first | exact HW0.out | apply bR | apply bD | apply bN | apply bA | apply bS) | (simp; done) | (simp; omega) | omega))⟩
 ·generalize hm1 : bmeet ⟨al, ah⟩ ⟨0, 9223372036854775807⟩ = m1
  have HM := Lib.hid hm1
  obtain ⟨⟨m1l, m1h⟩, m1b⟩ := m1
  cases m1b
  ·have e : bnarrow 20 ⟨al, ah⟩ ⟨bl, bh⟩ = (bnil, bnil, false) := by show bunsigned _ _ _ = _; unfold bunsigned; rw [if_neg h0, hm1]; rfl
   rw [e]
   clear ia ia2 ib ib2 e hm1
   go_enter Tryd.func78, Tryd.ntmps78
   go_wp2_with fail
   refine (RefMeet_any _ _ _ _ _).mono ?_
   rw [HM.out]
   (rintro e w1 ⟨rfl, hb⟩; obtain ⟨hc1, hf1⟩ := bcell hb; have hz1 := hb.size; (try simp at hz1); have HW1 := Lib.hid (show Below w.heap.size w w1 from Below.trans (by repeat' (first | with_reducible (first | exact HW0.out | apply bR | apply bD | apply bN | apply bA | apply bS) | (simp; done) | (simp; omega) | omega)) (hb.mono (by first | omega | simp <;> omega))); clear hb; (try have z10 : w.heap.size < w1.heap.size := by omega); (try have z11 : w.heap.size + 1 < w1.heap.size := by omega); (try have z12 : w.heap.size + 1 + 1 < w1.heap.size := by omega); (try have z13 : w.heap.size + 1 + 1 + 1 < w1.heap.size := by omega); (try have z14 : w.heap.size + 1 + 1 + 1 + 1 < w1.heap.size := by omega); (try have z15 : w.heap.size + 1 + 1 + 1 + 1 + 1 < w1.heap.size := by omega))
   have y1a : w.heap.size < w1.heap.size := (by omega)
   have c1a_0 : w1.cell? ⟨w.heap.size, 0, none⟩ = some (.int .i64 (al)) := by rw [hc1 _ _ (by first | omega | simp <;> omega)]; first | done | (simp [go_sem]; done) | assumption
   have r1a_0 : w1.frozen? ⟨w.heap.size, 0, none⟩ = false := by rw [hf1 _ _ (by first | omega | simp <;> omega)]; first | done | (simp [go_sem]; done) | assumption
   have c1a_1 : w1.cell? ⟨w.heap.size, 1, none⟩ = some (.int .i64 (ah)) := by rw [hc1 _ _ (by first | omega | simp <;> omega)]; first | done | (simp [go_sem]; done) | assumption
   have r1a_1 : w1.frozen? ⟨w.heap.size, 1, none⟩ = false := by rw [hf1 _ _ (by first | omega | simp <;> omega)]; first | done | (simp [go_sem]; done) | assumption
   have y1b : w.heap.size + 1 < w1.heap.size := (by omega)
   have c1b_0 : w1.cell? ⟨w.heap.size + 1, 0, none⟩ = some (.int .i64 (bl)) := by rw [hc1 _ _ (by first | omega | simp <;> omega)]; first | done | (simp [go_sem]; done) | assumption
   have c1b_1 : w1.cell? ⟨w.heap.size + 1, 1, none⟩ = some (.int .i64 (bh)) := by rw [hc1 _ _ (by first | omega | simp <;> omega)]; first | done | (simp [go_sem]; done) | assumption
   have y1r : w.heap.size + 1 + 1 < w1.heap.size := (by omega)
   have c1r_0 : w1.cell? ⟨w.heap.size + 1 + 1, 0, none⟩ = some (.int .i64 (0)) := by rw [hc1 _ _ (by first | omega | simp <;> omega)]; first | done | (simp [go_sem]; done) | assumption
   have r1r_0 : w1.frozen? ⟨w.heap.size + 1 + 1, 0, none⟩ = false := by rw [hf1 _ _ (by first | omega | simp <;> omega)]; first | done | (simp [go_sem]; done) | assumption
   have c1r_1 : w1.cell? ⟨w.heap.size + 1 + 1, 1, none⟩ = some (.int .i64 (0)) := by rw [hc1 _ _ (by first | omega | simp <;> omega)]; first | done | (simp [go_sem]; done) | assumption
   have r1r_1 : w1.frozen? ⟨w.heap.size + 1 + 1, 1, none⟩ = false := by rw [hf1 _ _ (by first | omega | simp <;> omega)]; first | done | (simp [go_sem]; done) | assumption
   have y1s : w.heap.size + 1 + 1 + 1 < w1.heap.size := (by omega)
   have c1s_0 : w1.cell? ⟨w.heap.size + 1 + 1 + 1, 0, none⟩ = some (.int .i64 (0)) := by rw [hc1 _ _ (by first | omega | simp <;> omega)]; first | done | (simp [go_sem]; done) | assumption
   have r1s_0 : w1.frozen? ⟨w.heap.size + 1 + 1 + 1, 0, none⟩ = false := by rw [hf1 _ _ (by first | omega | simp <;> omega)]; first | done | (simp [go_sem]; done) | assumption
   have c1s_1 : w1.cell? ⟨w.heap.size + 1 + 1 + 1, 1, none⟩ = some (.int .i64 (0)) := by rw [hc1 _ _ (by first | omega | simp <;> omega)]; first | done | (simp [go_sem]; done) | assumption
   have r1s_1 : w1.frozen? ⟨w.heap.size + 1 + 1 + 1, 1, none⟩ = false := by rw [hf1 _ _ (by first | omega | simp <;> omega)]; first | done | (simp [go_sem]; done) | assumption
   have y1n : w.heap.size + 1 + 1 + 1 + 1 < w1.heap.size := (by omega)
   have c1n_0 : w1.cell? ⟨w.heap.size + 1 + 1 + 1 + 1, 0, none⟩ = some (.int .i64 (0)) := by rw [hc1 _ _ (by first | omega | simp <;> omega)]; first | done | (simp [go_sem]; done) | assumption
   have c1n_1 : w1.cell? ⟨w.heap.size + 1 + 1 + 1 + 1, 1, none⟩ = some (.int .i64 (0)) := by rw [hc1 _ _ (by first | omega | simp <;> omega)]; first | done | (simp [go_sem]; done) | assumption
   clear hc1 hf1
   go_wp2_with fail
   go_region
   go_wp2_with fail
   exact bodyPost_ret (v := .tuple #[.agg #[.int .i64 (0), .int .i64 (0)], .agg #[.int .i64 (0), .int .i64 (0)], .bool (false)]) (by simp [results, Tryd.results78, go_sem, y1a, c1a_0, c1a_1, y1b, c1b_0, c1b_1, y1r, c1r_0, c1r_1, y1s, c1s_0, c1s_1, y1n, c1n_0, c1n_1]) rfl ⟨by first | rfl | (simp [bnil, bswap]; done), (by repeat' (first | with_reducible (first | exact HW1.out | apply bR | apply bD | apply bN | apply bA | apply bS) | (simp; done) | (simp; omega) | omega))⟩
  ·have e : bnarrow 20 ⟨al, ah⟩ ⟨bl, bh⟩ = bswap (bnarrow 22 ⟨bl, bh⟩ ⟨m1l, m1h⟩) := by show bunsigned _ _ _ = _; unfold bunsigned; rw [if_neg h0, hm1]; rfl
   rw [e]
   have hmo := bmeet_ok (a := ⟨al, ah⟩) (b := ⟨0, 9223372036854775807⟩) ⟨ia, ia2⟩ (by unfold B.In In64; simp) (by rw [hm1])
   rw [hm1] at hmo
   have IM := Lib.hid hmo.1; have IM2 := Lib.hid hmo.2.1; have IB := Lib.hid ib; have IB2 := Lib.hid ib2
   clear ia ia2 ib ib2 e hm1 hmo
   generalize hr : bnarrow 22 ⟨bl, bh⟩ ⟨m1l, m1h⟩ = r
   have HR := Lib.hid hr
   clear hr
   obtain ⟨⟨x1, x2⟩, ⟨x3, x4⟩, xb⟩ := r
   go_enter Tryd.func78, Tryd.ntmps78
   go_wp2_with fail
   refine (RefMeet_any _ _ _ _ _).mono ?_
   rw [HM.out]
   (rintro e w1 ⟨rfl, hb⟩; obtain ⟨hc1, hf1⟩ := bcell hb; have hz1 := hb.size; (try simp at hz1); have HW1 := Lib.hid (show Below w.heap.size w w1 from Below.trans (by repeat' (first | with_reducible (first | exact HW0.out | apply bR | apply bD | apply bN | apply bA | apply bS) | (simp; done) | (simp; omega) | omega)) (hb.mono (by first | omega | simp <;> omega))); clear hb; (try have z10 : w.heap.size < w1.heap.size := by omega); (try have z11 : w.heap.size + 1 < w1.heap.size := by omega); (try have z12 : w.heap.size + 1 + 1 < w1.heap.size := by omega); (try have z13 : w.heap.size + 1 + 1 + 1 < w1.heap.size := by omega); (try have z14 : w.heap.size + 1 + 1 + 1 + 1 < w1.heap.size := by omega); (try have z15 : w.heap.size + 1 + 1 + 1 + 1 + 1 < w1.heap.size := by omega))
   have y1a : w.heap.size < w1.heap.size := (by omega)
   have c1a_0 : w1.cell? ⟨w.heap.size, 0, none⟩ = some (.int .i64 (al)) := by rw [hc1 _ _ (by first | omega | simp <;> omega)]; first | done | (simp [go_sem]; done) | assumption
   have r1a_0 : w1.frozen? ⟨w.heap.size, 0, none⟩ = false := by rw [hf1 _ _ (by first | omega | simp <;> omega)]; first | done | (simp [go_sem]; done) | assumption
   have c1a_1 : w1.cell? ⟨w.heap.size, 1, none⟩ = some (.int .i64 (ah)) := by rw [hc1 _ _ (by first | omega | simp <;> omega)]; first | done | (simp [go_sem]; done) | assumption
   have r1a_1 : w1.frozen? ⟨w.heap.size, 1, none⟩ = false := by rw [hf1 _ _ (by first | omega | simp <;> omega)]; first | done | (simp [go_sem]; done) | assumption
   have y1b : w.heap.size + 1 < w1.heap.size := (by omega)
   have c1b_0 : w1.cell? ⟨w.heap.size + 1, 0, none⟩ = some (.int .i64 (bl)) := by rw [hc1 _ _ (by first | omega | simp <;> omega)]; first | done | (simp [go_sem]; done) | assumption
   have c1b_1 : w1.cell? ⟨w.heap.size + 1, 1, none⟩ = some (.int .i64 (bh)) := by rw [hc1 _ _ (by first | omega | simp <;> omega)]; first | done | (simp [go_sem]; done) | assumption
   have y1r : w.heap.size + 1 + 1 < w1.heap.size := (by omega)
   have c1r_0 : w1.cell? ⟨w.heap.size + 1 + 1, 0, none⟩ = some (.int .i64 (0)) := by rw [hc1 _ _ (by first | omega | simp <;> omega)]; first | done | (simp [go_sem]; done) | assumption
   have r1r_0 : w1.frozen? ⟨w.heap.size + 1 + 1, 0, none⟩ = false := by rw [hf1 _ _ (by first | omega | simp <;> omega)]; first | done | (simp [go_sem]; done) | assumption
   have c1r_1 : w1.cell? ⟨w.heap.size + 1 + 1, 1, none⟩ = some (.int .i64 (0)) := by rw [hc1 _ _ (by first | omega | simp <;> omega)]; first | done | (simp [go_sem]; done) | assumption
   have r1r_1 : w1.frozen? ⟨w.heap.size + 1 + 1, 1, none⟩ = false := by rw [hf1 _ _ (by first | omega | simp <;> omega)]; first | done | (simp [go_sem]; done) | assumption
   have y1s : w.heap.size + 1 + 1 + 1 < w1.heap.size := (by omega)
   have c1s_0 : w1.cell? ⟨w.heap.size + 1 + 1 + 1, 0, none⟩ = some (.int .i64 (0)) := by rw [hc1 _ _ (by first | omega | simp <;> omega)]; first | done | (simp [go_sem]; done) | assumption
   have r1s_0 : w1.frozen? ⟨w.heap.size + 1 + 1 + 1, 0, none⟩ = false := by rw [hf1 _ _ (by first | omega | simp <;> omega)]; first | done | (simp [go_sem]; done) | assumption
   have c1s_1 : w1.cell? ⟨w.heap.size + 1 + 1 + 1, 1, none⟩ = some (.int .i64 (0)) := by rw [hc1 _ _ (by first | omega | simp <;> omega)]; first | done | (simp [go_sem]; done) | assumption
   have r1s_1 : w1.frozen? ⟨w.heap.size + 1 + 1 + 1, 1, none⟩ = false := by rw [hf1 _ _ (by first | omega | simp <;> omega)]; first | done | (simp [go_sem]; done) | assumption
   have y1n : w.heap.size + 1 + 1 + 1 + 1 < w1.heap.size := (by omega)
   have c1n_0 : w1.cell? ⟨w.heap.size + 1 + 1 + 1 + 1, 0, none⟩ = some (.int .i64 (0)) := by rw [hc1 _ _ (by first | omega | simp <;> omega)]; first | done | (simp [go_sem]; done) | assumption
   have c1n_1 : w1.cell? ⟨w.heap.size + 1 + 1 + 1 + 1, 1, none⟩ = some (.int .i64 (0)) := by rw [hc1 _ _ (by first | omega | simp <;> omega)]; first | done | (simp [go_sem]; done) | assumption
   clear hc1 hf1
   go_wp2_with fail
   refine (RefN_22 _ _ _ _ IB.out IB2.out IM.out IM2.out _).mono ?_
   rw [HR.out]
   (rintro e w2 ⟨rfl, hb⟩; obtain ⟨hc2, hf2⟩ := bcell hb; have hz2 := hb.size; (try simp at hz2); have HW2 := Lib.hid (show Below w.heap.size w w2 from Below.trans (by repeat' (first | with_reducible (first | exact HW1.out | apply bR | apply bD | apply bN | apply bA | apply bS) | (simp; done) | (simp; omega) | omega)) (hb.mono (by first | omega | simp <;> omega))); clear hb; (try have z20 : w.heap.size < w2.heap.size := by omega); (try have z21 : w.heap.size + 1 < w2.heap.size := by omega); (try have z22 : w.heap.size + 1 + 1 < w2.heap.size := by omega); (try have z23 : w.heap.size + 1 + 1 + 1 < w2.heap.size := by omega); (try have z24 : w.heap.size + 1 + 1 + 1 + 1 < w2.heap.size := by omega); (try have z25 : w.heap.size + 1 + 1 + 1 + 1 + 1 < w2.heap.size := by omega))
   have y2a : w.heap.size < w2.heap.size := (by omega)
   have c2a_0 : w2.cell? ⟨w.heap.size, 0, none⟩ = some (.int .i64 (m1l)) := by rw [hc2 _ _ (by first | omega | simp <;> omega)]; first | done | (simp [go_sem, c1a_0, y1a, y1b, y1r, y1s, y1n]; done) | assumption
   have c2a_1 : w2.cell? ⟨w.heap.size, 1, none⟩ = some (.int .i64 (m1h)) := by rw [hc2 _ _ (by first | omega | simp <;> omega)]; first | done | (simp [go_sem, c1a_1, y1a, y1b, y1r, y1s, y1n]; done) | assumption
   have y2b : w.heap.size + 1 < w2.heap.size := (by omega)
   have c2b_0 : w2.cell? ⟨w.heap.size + 1, 0, none⟩ = some (.int .i64 (bl)) := by rw [hc2 _ _ (by first | omega | simp <;> omega)]; first | done | (simp [go_sem, c1b_0, y1a, y1b, y1r, y1s, y1n]; done) | assumption
   have c2b_1 : w2.cell? ⟨w.heap.size + 1, 1, none⟩ = some (.int .i64 (bh)) := by rw [hc2 _ _ (by first | omega | simp <;> omega)]; first | done | (simp [go_sem, c1b_1, y1a, y1b, y1r, y1s, y1n]; done) | assumption
   have y2r : w.heap.size + 1 + 1 < w2.heap.size := (by omega)
   have c2r_0 : w2.cell? ⟨w.heap.size + 1 + 1, 0, none⟩ = some (.int .i64 (0)) := by rw [hc2 _ _ (by first | omega | simp <;> omega)]; first | done | (simp [go_sem, c1r_0, y1a, y1b, y1r, y1s, y1n]; done) | assumption
   have r2r_0 : w2.frozen? ⟨w.heap.size + 1 + 1, 0, none⟩ = false := by rw [hf2 _ _ (by first | omega | simp <;> omega)]; first | done | (simp [go_sem, r1r_0, y1a, y1b, y1r, y1s, y1n]; done) | assumption
   have c2r_1 : w2.cell? ⟨w.heap.size + 1 + 1, 1, none⟩ = some (.int .i64 (0)) := by rw [hc2 _ _ (by first | omega | simp <;> omega)]; first | done | (simp [go_sem, c1r_1, y1a, y1b, y1r, y1s, y1n]; done) | assumption
   have r2r_1 : w2.frozen? ⟨w.heap.size + 1 + 1, 1, none⟩ = false := by rw [hf2 _ _ (by first | omega | simp <;> omega)]; first | done | (simp [go_sem, r1r_1, y1a, y1b, y1r, y1s, y1n]; done) | assumption
   have y2s : w.heap.size + 1 + 1 + 1 < w2.heap.size := (by omega)
   have c2s_0 : w2.cell? ⟨w.heap.size + 1 + 1 + 1, 0, none⟩ = some (.int .i64 (0)) := by rw [hc2 _ _ (by first | omega | simp <;> omega)]; first | done | (simp [go_sem, c1s_0, y1a, y1b, y1r, y1s, y1n]; done) | assumption
   have r2s_0 : w2.frozen? ⟨w.heap.size + 1 + 1 + 1, 0, none⟩ = false := by rw [hf2 _ _ (by first | omega | simp <;> omega)]; first | done | (simp [go_sem, r1s_0, y1a, y1b, y1r, y1s, y1n]; done) | assumption
   have c2s_1 : w2.cell? ⟨w.heap.size + 1 + 1 + 1, 1, none⟩ = some (.int .i64 (0)) := by rw [hc2 _ _ (by first | omega | simp <;> omega)]; first | done | (simp [go_sem, c1s_1, y1a, y1b, y1r, y1s, y1n]; done) | assumption
   have r2s_1 : w2.frozen? ⟨w.heap.size + 1 + 1 + 1, 1, none⟩ = false := by rw [hf2 _ _ (by first | omega | simp <;> omega)]; first | done | (simp [go_sem, r1s_1, y1a, y1b, y1r, y1s, y1n]; done) | assumption
   clear hc2 hf2
   go_wp2_with fail
   go_region
   go_wp2_with fail
   exact bodyPost_ret (v := .tuple #[.agg #[.int .i64 (x3), .int .i64 (x4)], .agg #[.int .i64 (x1), .int .i64 (x2)], .bool (xb)]) (by simp [results, Tryd.results78, go_sem, y2a, c2a_0, c2a_1, y2b, c2b_0, c2b_1, y2r, c2r_0, c2r_1, y2s, c2s_0, c2s_1]) rfl ⟨by first | rfl | (simp [bnil, bswap]; done), (by repeat' (first | with_reducible (first | exact HW2.out | apply bR | apply bD | apply bN | apply bA | apply bS) | (simp; done) | (simp; omega) | omega))⟩

set_option maxRecDepth 100000 in
set_option maxHeartbeats 4000000 in
theorem RefN_17 (al ah bl bh : Int) (ia : In64 al) (ia2 : In64 ah) (ib : In64 bl) (ib2 : In64 bh) (w : World) :
  Calls Tryd.prog 78 #[.int .i64 17, .agg #[.int .i64 al, .int .i64 ah], .agg #[.int .i64 bl, .int .i64 bh]] w fun e w' => e = .returned (.tuple #[.agg #[.int .i64 (bnarrow 17 ⟨al, ah⟩ ⟨bl, bh⟩).1.lo, .int .i64 (bnarrow 17 ⟨al, ah⟩ ⟨bl, bh⟩).1.hi], .agg #[.int .i64 (bnarrow 17 ⟨al, ah⟩ ⟨bl, bh⟩).2.1.lo, .int .i64 (bnarrow 17 ⟨al, ah⟩ ⟨bl, bh⟩).2.1.hi], .bool (bnarrow 17 ⟨al, ah⟩ ⟨bl, bh⟩).2.2]) ∧ Below w.heap.size w w' := by
 have HW0 := Lib.hid (Below.refl w.heap.size w)
 have e : bnarrow 17 ⟨al, ah⟩ ⟨bl, bh⟩ = bswap (bnarrow 19 ⟨bl, bh⟩ ⟨al, ah⟩) := rfl
 rw [e]
 have IA := Lib.hid ia; have IA2 := Lib.hid ia2; have IB := Lib.hid ib; have IB2 := Lib.hid ib2
 clear ia ia2 ib ib2 e
 generalize hr : bnarrow 19 ⟨bl, bh⟩ ⟨al, ah⟩ = r
 have HR := Lib.hid hr
 clear hr
 obtain ⟨⟨x1, x2⟩, ⟨x3, x4⟩, xb⟩ := r
 go_enter Tryd.func78, Tryd.ntmps78
 go_wp2_with fail
 refine (RefN_19 _ _ _ _ IB.out IB2.out IA.out IA2.out _).mono ?_
 rw [HR.out]
 (rintro e w1 ⟨rfl, hb⟩; obtain ⟨hc1, hf1⟩ := bcell hb; have hz1 := hb.size; (try simp at hz1); have HW1 := Lib.hid (show Below w.heap.size w w1 from Below.trans (by repeat' (first | with_reducible (first | exact HW0.out | apply bR | apply bD | apply bN | apply bA | apply bS) | (simp; done) | (simp; omega) | omega)) (hb.mono (by first | omega | simp <;> omega))); clear hb; (try have z10 : w.heap.size < w1.heap.size := by omega); (try have z11 : w.heap.size + 1 < w1.heap.size := by omega); (try have z12 : w.heap.size + 1 + 1 < w1.heap.size := by omega); (try have z13 : w.heap.size + 1 + 1 + 1 < w1.heap.size := by omega); (try have z14 : w.heap.size + 1 + 1 + 1 + 1 < w1.heap.size := by omega); (try have z15 : w.heap.size + 1 + 1 + 1 + 1 + 1 < w1.heap.size := by omega))
 have y1a : w.heap.size < w1.heap.size := (by omega)
 have c1a_0 : w1.cell? ⟨w.heap.size, 0, none⟩ = some (.int .i64 (al)) := by rw [hc1 _ _ (by first | omega | simp <;> omega)]; first | done | (simp [go_sem]; done) | assumption
 have r1a_0 : w1.frozen? ⟨w.heap.size, 0, none⟩ = false := by rw [hf1 _ _ (by first | omega | simp <;> omega)]; first | done | (simp [go_sem]; done) | assumption
 have c1a_1 : w1.cell? ⟨w.heap.size, 1, none⟩ = some (.int .i64 (ah)) := by rw [hc1 _ _ (by first | omega | simp <;> omega)]; first | done | (simp [go_sem]; done) | assumption
 have r1a_1 : w1.frozen? ⟨w.heap.size, 1, none⟩ = false := by rw [hf1 _ _ (by first | omega | simp <;> omega)]; first | done | (simp [go_sem]; done) | assumption
 have y1b : w.heap.size + 1 < w1.heap.size := (by omega)
 have c1b_0 : w1.cell? ⟨w.heap.size + 1, 0, none⟩ = some (.int .i64 (bl)) := by rw [hc1 _ _ (by first | omega | simp <;> omega)]; first | done | (simp [go_sem]; done) | assumption
 have c1b_1 : w1.cell? ⟨w.heap.size + 1, 1, none⟩ = some (.int .i64 (bh)) := by rw [hc1 _ _ (by first | omega | simp <;> omega)]; first | done | (simp [go_sem]; done) | assumption
 have y1r : w.heap.size + 1 + 1 < w1.heap.size := (by omega)
 have c1r_0 : w1.cell? ⟨w.heap.size + 1 + 1, 0, none⟩ = some (.int .i64 (0)) := by rw [hc1 _ _ (by first | omega | simp <;> omega)]; first | done | (simp [go_sem]; done) | assumption
 have r1r_0 : w1.frozen? ⟨w.heap.size + 1 + 1, 0, none⟩ = false := by rw [hf1 _ _ (by first | omega | simp <;> omega)]; first | done | (simp [go_sem]; done) | assumption
 have c1r_1 : w1.cell? ⟨w.heap.size + 1 + 1, 1, none⟩ = some (.int .i64 (0)) := by rw [hc1 _ _ (by first | omega | simp <;> omega)]; first | done | (simp [go_sem]; done) | assumption
 have r1r_1 : w1.frozen? ⟨w.heap.size + 1 + 1, 1, none⟩ = false := by rw [hf1 _ _ (by first | omega | simp <;> omega)]; first | done | (simp [go_sem]; done) | assumption
 have y1s : w.heap.size + 1 + 1 + 1 < w1.heap.size := (by omega)
 have c1s_0 : w1.cell? ⟨w.heap.size + 1 + 1 + 1, 0, none⟩ = some (.int .i64 (0)) := by rw [hc1 _ _ (by first | omega | simp <;> omega)]; first | done | (simp [go_sem]; done) | assumption
 have r1s_0 : w1.frozen? ⟨w.heap.size + 1 + 1 + 1, 0, none⟩ = false := by rw [hf1 _ _ (by first | omega | simp <;> omega)]; first | done | (simp [go_sem]; done) | assumption
 have c1s_1 : w1.cell? ⟨w.heap.size + 1 + 1 + 1, 1, none⟩ = some (.int .i64 (0)) := by rw [hc1 _ _ (by first | omega | simp <;> omega)]; first | done | (simp [go_sem]; done) | assumption
 have r1s_1 : w1.frozen? ⟨w.heap.size + 1 + 1 + 1, 1, none⟩ = false := by rw [hf1 _ _ (by first | omega | simp <;> omega)]; first | done | (simp [go_sem]; done) | assumption
 have y1n : w.heap.size + 1 + 1 + 1 + 1 < w1.heap.size := (by omega)
 have c1n_0 : w1.cell? ⟨w.heap.size + 1 + 1 + 1 + 1, 0, none⟩ = some (.int .i64 (0)) := by rw [hc1 _ _ (by first | omega | simp <;> omega)]; first | done | (simp [go_sem]; done) | assumption
 have c1n_1 : w1.cell? ⟨w.heap.size + 1 + 1 + 1 + 1, 1, none⟩ = some (.int .i64 (0)) := by rw [hc1 _ _ (by first | omega | simp <;> omega)]; first | done | (simp [go_sem]; done) | assumption
 clear hc1 hf1
 go_wp2_with fail
 go_region
 go_wp2_with fail
 exact bodyPost_ret (v := .tuple #[.agg #[.int .i64 (x3), .int .i64 (x4)], .agg #[.int .i64 (x1), .int .i64 (x2)], .bool (xb)]) (by simp [results, Tryd.results78, go_sem, y1a, c1a_0, c1a_1, y1b, c1b_0, c1b_1, y1r, c1r_0, c1r_1, y1s, c1s_0, c1s_1, y1n, c1n_0, c1n_1]) rfl ⟨by first | rfl | (simp [bnil, bswap]; done), (by repeat' (first | with_reducible (first | exact HW1.out | apply bR | apply bD | apply bN | apply bA | apply bS) | (simp; done) | (simp; omega) | omega))⟩

set_option maxRecDepth 100000 in
set_option maxHeartbeats 4000000 in
theorem RefN_18 (al ah bl bh : Int) (ia : In64 al) (ia2 : In64 ah) (ib : In64 bl) (ib2 : In64 bh) (w : World) :
  Calls Tryd.prog 78 #[.int .i64 18, .agg #[.int .i64 al, .int .i64 ah], .agg #[.int .i64 bl, .int .i64 bh]] w fun e w' => e = .returned (.tuple #[.agg #[.int .i64 (bnarrow 18 ⟨al, ah⟩ ⟨bl, bh⟩).1.lo, .int .i64 (bnarrow 18 ⟨al, ah⟩ ⟨bl, bh⟩).1.hi], .agg #[.int .i64 (bnarrow 18 ⟨al, ah⟩ ⟨bl, bh⟩).2.1.lo, .int .i64 (bnarrow 18 ⟨al, ah⟩ ⟨bl, bh⟩).2.1.hi], .bool (bnarrow 18 ⟨al, ah⟩ ⟨bl, bh⟩).2.2]) ∧ Below w.heap.size w w' := by
 have HW0 := Lib.hid (Below.refl w.heap.size w)
 have e : bnarrow 18 ⟨al, ah⟩ ⟨bl, bh⟩ = bswap (bnarrow 20 ⟨bl, bh⟩ ⟨al, ah⟩) := rfl
 rw [e]
 have IA := Lib.hid ia; have IA2 := Lib.hid ia2; have IB := Lib.hid ib; have IB2 := Lib.hid ib2
 clear ia ia2 ib ib2 e
 generalize hr : bnarrow 20 ⟨bl, bh⟩ ⟨al, ah⟩ = r
 have HR := Lib.hid hr
 clear hr
 obtain ⟨⟨x1, x2⟩, ⟨x3, x4⟩, xb⟩ := r
 go_enter Tryd.func78, Tryd.ntmps78
 go_wp2_with fail
 refine (RefN_20 _ _ _ _ IB.out IB2.out IA.out IA2.out _).mono ?_
 rw [HR.out]
 (rintro e w1 ⟨rfl, hb⟩; obtain ⟨hc1, hf1⟩ := bcell hb; have hz1 := hb.size; (try simp at hz1); have HW1 := Lib.hid (show Below w.heap.size w w1 from Below.trans (by repeat' (first | with_reducible (first | exact HW0.out | apply bR | apply bD | apply bN | apply bA | apply bS) | (simp; done) | (simp; omega) | omega)) (hb.mono (by first | omega | simp <;> omega))); clear hb; (try have z10 : w.heap.size < w1.heap.size := by omega); (try have z11 : w.heap.size + 1 < w1.heap.size := by omega); (try have z12 : w.heap.size + 1 + 1 < w1.heap.size := by omega); (try have z13 : w.heap.size + 1 + 1 + 1 < w1.heap.size := by omega); (try have z14 : w.heap.size + 1 + 1 + 1 + 1 < w1.heap.size := by omega); (try have z15 : w.heap.size + 1 + 1 + 1 + 1 + 1 < w1.heap.size := by omega))
 have y1a : w.heap.size < w1.heap.size := (by omega)
 have c1a_0 : w1.cell? ⟨w.heap.size, 0, none⟩ = some (.int .i64 (al)) := by rw [hc1 _ _ (by first | omega | simp <;> omega)]; first | done | (simp [go_sem]; done) | assumption
 have r1a_0 : w1.frozen? ⟨w.heap.size, 0, none⟩ = false := by rw [hf1 _ _ (by first | omega | simp <;> omega)]; first | done | (simp [go_sem]; done) | assumption
 have c1a_1 : w1.cell? ⟨w.heap.size, 1, none⟩ = some (.int .i64 (ah)) := by rw [hc1 _ _ (by first | omega | simp <;> omega)]; first | done | (simp [go_sem]; done) | assumption
 have r1a_1 : w1.frozen? ⟨w.heap.size, 1, none⟩ = false := by rw [hf1 _ _ (by first | omega | simp <;> omega)]; first | done | (simp [go_sem]; done) | assumption
 have y1b : w.heap.size + 1 < w1.heap.size := (by omega)
 have c1b_0 : w1.cell? ⟨w.heap.size + 1, 0, none⟩ = some (.int .i64 (bl)) := by rw [hc1 _ _ (by first | omega | simp <;> omega)]; first | done | (simp [go_sem]; done) | assumption
 have c1b_1 : w1.cell? ⟨w.heap.size + 1, 1, none⟩ = some (.int .i64 (bh)) := by rw [hc1 _ _ (by first | omega | simp <;> omega)]; first | done | (simp [go_sem]; done) | assumption
 have y1r : w.heap.size + 1 + 1 < w1.heap.size := (by omega)
 have c1r_0 : w1.cell? ⟨w.heap.size + 1 + 1, 0, none⟩ = some (.int .i64 (0)) := by rw [hc1 _ _ (by first | omega | simp <;> omega)]; first | done | (simp [go_sem]; done) | assumption
 have r1r_0 : w1.frozen? ⟨w.heap.size + 1 + 1, 0, none⟩ = false := by rw [hf1 _ _ (by first | omega | simp <;> omega)]; first | done | (simp [go_sem]; done) | assumption
 have c1r_1 : w1.cell? ⟨w.heap.size + 1 + 1, 1, none⟩ = some (.int .i64 (0)) := by rw [hc1 _ _ (by first | omega | simp <;> omega)]; first | done | (simp [go_sem]; done) | assumption
 have r1r_1 : w1.frozen? ⟨w.heap.size + 1 + 1, 1, none⟩ = false := by rw [hf1 _ _ (by first | omega | simp <;> omega)]; first | done | (simp [go_sem]; done) | assumption
 have y1s : w.heap.size + 1 + 1 + 1 < w1.heap.size := (by omega)
 have c1s_0 : w1.cell? ⟨w.heap.size + 1 + 1 + 1, 0, none⟩ = some (.int .i64 (0)) := by rw [hc1 _ _ (by first | omega | simp <;> omega)]; first | done | (simp [go_sem]; done) | assumption
 have r1s_0 : w1.frozen? ⟨w.heap.size + 1 + 1 + 1, 0, none⟩ = false := by rw [hf1 _ _ (by first | omega | simp <;> omega)]; first | done | (simp [go_sem]; done) | assumption
 have c1s_1 : w1.cell? ⟨w.heap.size + 1 + 1 + 1, 1, none⟩ = some (.int .i64 (0)) := by rw [hc1 _ _ (by first | omega | simp <;> omega)]; first | done | (simp [go_sem]; done) | assumption
 have r1s_1 : w1.frozen? ⟨w.heap.size + 1 + 1 + 1, 1, none⟩ = false := by rw [hf1 _ _ (by first | omega | simp <;> omega)]; first | done | (simp [go_sem]; done) | assumption
 have y1n : w.heap.size + 1 + 1 + 1 + 1 < w1.heap.size := (by omega)
 have c1n_0 : w1.cell? ⟨w.heap.size + 1 + 1 + 1 + 1, 0, none⟩ = some (.int .i64 (0)) := by rw [hc1 _ _ (by first | omega | simp <;> omega)]; first | done | (simp [go_sem]; done) | assumption
 have c1n_1 : w1.cell? ⟨w.heap.size + 1 + 1 + 1 + 1, 1, none⟩ = some (.int .i64 (0)) := by rw [hc1 _ _ (by first | omega | simp <;> omega)]; first | done | (simp [go_sem]; done) | assumption
 clear hc1 hf1
 go_wp2_with fail
 go_region
 go_wp2_with fail
 exact bodyPost_ret (v := .tuple #[.agg #[.int .i64 (x3), .int .i64 (x4)], .agg #[.int .i64 (x1), .int .i64 (x2)], .bool (xb)]) (by simp [results, Tryd.results78, go_sem, y1a, c1a_0, c1a_1, y1b, c1b_0, c1b_1, y1r, c1r_0, c1r_1, y1s, c1s_0, c1s_1, y1n, c1n_0, c1n_1]) rfl ⟨by first | rfl | (simp [bnil, bswap]; done), (by repeat' (first | with_reducible (first | exact HW1.out | apply bR | apply bD | apply bN | apply bA | apply bS) | (simp; done) | (simp; omega) | omega))⟩

set_option maxRecDepth 100000 in
set_option maxHeartbeats 4000000 in
theorem RefN_16 (al ah bl bh : Int) (ia : In64 al) (ia2 : In64 ah) (ib : In64 bl) (ib2 : In64 bh) (ha : al ≤ ah) (hb : bl ≤ bh) (w : World) :
  Calls Tryd.prog 78 #[.int .i64 16, .agg #[.int .i64 al, .int .i64 ah], .agg #[.int .i64 bl, .int .i64 bh]] w fun e w' => e = .returned (.tuple #[.agg #[.int .i64 (bnarrow 16 ⟨al, ah⟩ ⟨bl, bh⟩).1.lo, .int .i64 (bnarrow 16 ⟨al, ah⟩ ⟨bl, bh⟩).1.hi], .agg #[.int .i64 (bnarrow 16 ⟨al, ah⟩ ⟨bl, bh⟩).2.1.lo, .int .i64 (bnarrow 16 ⟨al, ah⟩ ⟨bl, bh⟩).2.1.hi], .bool (bnarrow 16 ⟨al, ah⟩ ⟨bl, bh⟩).2.2]) ∧ Below w.heap.size w w' := by
 have HW0 := Lib.hid (Below.refl w.heap.size w)
 have IA := Lib.hid ia; have IA2 := Lib.hid ia2; have IB := Lib.hid ib; have IB2 := Lib.hid ib2; have OA := Lib.hid ha; have OB := Lib.hid hb
 clear ia ia2 ib ib2 ha hb
 by_cases h3 : al = bl
 ·subst h3
  by_cases h4 : ah = bh
  ·subst h4
   by_cases h2 : al = ah
   ·have e : bnarrow 16 ⟨al, ah⟩ ⟨al, ah⟩ = (bnil, bnil, false) := by show bunlike _ _ = _; unfold bunlike; rw [if_pos ⟨h2, rfl⟩]
    rw [e]
    clear e
    have t1 : (al == ah) = true := by simp [h2]
    clear h2
    go_enter Tryd.func78, Tryd.ntmps78
    go_wp2_with fail
    go_region
    go_wp2_with fail
    exact bodyPost_ret (v := .tuple #[.agg #[.int .i64 (0), .int .i64 (0)], .agg #[.int .i64 (0), .int .i64 (0)], .bool (false)]) (by simp [results, Tryd.results78, go_sem]) rfl ⟨by first | rfl | (simp [bnil, bswap]; done), (by repeat' (first | with_reducible (first | exact HW0.out | apply bR | apply bD | apply bN | apply bA | apply bS) | (simp; done) | (simp; omega) | omega))⟩
   ·have e : bnarrow 16 ⟨al, ah⟩ ⟨al, ah⟩ = (bcut ⟨al, ah⟩ ⟨al, ah⟩, bcut ⟨al, ah⟩ ⟨al, ah⟩, true) := by show bunlike _ _ = _; unfold bunlike; rw [if_neg]; rintro ⟨h7, h8⟩; rw [B.mk.injEq] at h8; first | exact h3 h8.1 | exact h4 h8.2 | exact h2 h7
    rw [e]
    clear e
    have t1 : (al == ah) = false := by simp [h2]
    go_enter Tryd.func78, Tryd.ntmps78
    go_wp2_with fail
    go_region_held3 (fun w' => w'.cell? ⟨w.heap.size, 0, none⟩ = some (.int .i64 al) ∧ w'.cell? ⟨w.heap.size, 1, none⟩ = some (.int .i64 ah) ∧ w'.cell? ⟨w.heap.size + 1, 0, none⟩ = some (.int .i64 al) ∧ w'.cell? ⟨w.heap.size + 1, 1, none⟩ = some (.int .i64 ah))
     (first | (simp [go_sem, *]; done))
     (first | (go_at_call 97; refine (RefCut_any _ _ _ _ (by first | exact IA.out | exact IB.out) (by first | exact IA2.out | exact IB2.out) (by first | exact OA.out | exact OB.out) _).mono ?_; rintro e w1 ⟨rfl, hb⟩; obtain ⟨hc, hf⟩ := bcell hb; have hz := hb.size; (try simp at hz); have z0 : w.heap.size < w1.heap.size := (by omega); have z1 : w.heap.size + 1 < w1.heap.size := (by omega); have z2 : w.heap.size + 1 + 1 < w1.heap.size := (by omega); have z3 : w.heap.size + 1 + 1 + 1 < w1.heap.size := (by omega); have z4 : w.heap.size + 1 + 1 + 1 + 1 < w1.heap.size := (by omega); have hwn : Below w.heap.size w w1 := (by first | exact Below.trans (below5 w _ _ _ _ _) (hb.mono (by first | omega | simp <;> omega)) | exact Below.trans hwn (hb.mono (by first | omega | simp <;> omega))); clear hb))
    go_wp2_with fail
    refine bodyPost_ret (v := .tuple #[.agg #[.int .i64 ((bcut ⟨al, ah⟩ ⟨al, ah⟩).lo), .int .i64 ((bcut ⟨al, ah⟩ ⟨al, ah⟩).hi)], .agg #[.int .i64 ((bcut ⟨al, ah⟩ ⟨al, ah⟩).lo), .int .i64 ((bcut ⟨al, ah⟩ ⟨al, ah⟩).hi)], .bool true]) (by simp [results, Tryd.results78, go_sem, *]) rfl ⟨rfl, ?_⟩
    repeat' (first | with_reducible exact hwn | with_reducible refine Below.setCell ?_ ?_ _ | (simp; done) | (simp; omega))
  ·have e : bnarrow 16 ⟨al, ah⟩ ⟨al, bh⟩ = (bcut ⟨al, ah⟩ ⟨al, bh⟩, bcut ⟨al, bh⟩ ⟨al, ah⟩, true) := by show bunlike _ _ = _; unfold bunlike; rw [if_neg]; rintro ⟨h7, h8⟩; rw [B.mk.injEq] at h8; first | exact h3 h8.1 | exact h4 h8.2 | exact h2 h7
   rw [e]
   clear e
   go_enter Tryd.func78, Tryd.ntmps78
   go_wp2_with fail
   go_region_held3 (fun w' => w'.cell? ⟨w.heap.size, 0, none⟩ = some (.int .i64 al) ∧ w'.cell? ⟨w.heap.size, 1, none⟩ = some (.int .i64 ah) ∧ w'.cell? ⟨w.heap.size + 1, 0, none⟩ = some (.int .i64 al) ∧ w'.cell? ⟨w.heap.size + 1, 1, none⟩ = some (.int .i64 bh))
    (first | (simp [go_sem, *]; done))
    (first | (go_at_call 97; refine (RefCut_any _ _ _ _ (by first | exact IA.out | exact IB.out) (by first | exact IA2.out | exact IB2.out) (by first | exact OA.out | exact OB.out) _).mono ?_; rintro e w1 ⟨rfl, hb⟩; obtain ⟨hc, hf⟩ := bcell hb; have hz := hb.size; (try simp at hz); have z0 : w.heap.size < w1.heap.size := (by omega); have z1 : w.heap.size + 1 < w1.heap.size := (by omega); have z2 : w.heap.size + 1 + 1 < w1.heap.size := (by omega); have z3 : w.heap.size + 1 + 1 + 1 < w1.heap.size := (by omega); have z4 : w.heap.size + 1 + 1 + 1 + 1 < w1.heap.size := (by omega); have hwn : Below w.heap.size w w1 := (by first | exact Below.trans (below5 w _ _ _ _ _) (hb.mono (by first | omega | simp <;> omega)) | exact Below.trans hwn (hb.mono (by first | omega | simp <;> omega))); clear hb))
   go_wp2_with fail
   refine bodyPost_ret (v := .tuple #[.agg #[.int .i64 ((bcut ⟨al, ah⟩ ⟨al, bh⟩).lo), .int .i64 ((bcut ⟨al, ah⟩ ⟨al, bh⟩).hi)], .agg #[.int .i64 ((bcut ⟨al, bh⟩ ⟨al, ah⟩).lo), .int .i64 ((bcut ⟨al, bh⟩ ⟨al, ah⟩).hi)], .bool true]) (by simp [results, Tryd.results78, go_sem, *]) rfl ⟨rfl, ?_⟩
   repeat' (first | with_reducible exact hwn | with_reducible refine Below.setCell ?_ ?_ _ | (simp; done) | (simp; omega))
 ·have e : bnarrow 16 ⟨al, ah⟩ ⟨bl, bh⟩ = (bcut ⟨al, ah⟩ ⟨bl, bh⟩, bcut ⟨bl, bh⟩ ⟨al, ah⟩, true) := by show bunlike _ _ = _; unfold bunlike; rw [if_neg]; rintro ⟨h7, h8⟩; rw [B.mk.injEq] at h8; first | exact h3 h8.1 | exact h4 h8.2 | exact h2 h7
  rw [e]
  clear e
  go_enter Tryd.func78, Tryd.ntmps78
  go_wp2_with fail
  go_region_held3 (fun w' => w'.cell? ⟨w.heap.size, 0, none⟩ = some (.int .i64 al) ∧ w'.cell? ⟨w.heap.size, 1, none⟩ = some (.int .i64 ah) ∧ w'.cell? ⟨w.heap.size + 1, 0, none⟩ = some (.int .i64 bl) ∧ w'.cell? ⟨w.heap.size + 1, 1, none⟩ = some (.int .i64 bh))
   (first | (simp [go_sem, *]; done))
   (first | (go_at_call 97; refine (RefCut_any _ _ _ _ (by first | exact IA.out | exact IB.out) (by first | exact IA2.out | exact IB2.out) (by first | exact OA.out | exact OB.out) _).mono ?_; rintro e w1 ⟨rfl, hb⟩; obtain ⟨hc, hf⟩ := bcell hb; have hz := hb.size; (try simp at hz); have z0 : w.heap.size < w1.heap.size := (by omega); have z1 : w.heap.size + 1 < w1.heap.size := (by omega); have z2 : w.heap.size + 1 + 1 < w1.heap.size := (by omega); have z3 : w.heap.size + 1 + 1 + 1 < w1.heap.size := (by omega); have z4 : w.heap.size + 1 + 1 + 1 + 1 < w1.heap.size := (by omega); have hwn : Below w.heap.size w w1 := (by first | exact Below.trans (below5 w _ _ _ _ _) (hb.mono (by first | omega | simp <;> omega)) | exact Below.trans hwn (hb.mono (by first | omega | simp <;> omega))); clear hb))
  go_wp2_with fail
  refine bodyPost_ret (v := .tuple #[.agg #[.int .i64 ((bcut ⟨al, ah⟩ ⟨bl, bh⟩).lo), .int .i64 ((bcut ⟨al, ah⟩ ⟨bl, bh⟩).hi)], .agg #[.int .i64 ((bcut ⟨bl, bh⟩ ⟨al, ah⟩).lo), .int .i64 ((bcut ⟨bl, bh⟩ ⟨al, ah⟩).hi)], .bool true]) (by simp [results, Tryd.results78, go_sem, *]) rfl ⟨rfl, ?_⟩
  repeat' (first | with_reducible exact hwn | with_reducible refine Below.setCell ?_ ?_ _ | (simp; done) | (simp; omega))

set_option maxRecDepth 100000 in
set_option maxHeartbeats 4000000 in
theorem RefN_oth (c : Int) (hc : c < 15 ∨ 24 < c) (al ah bl bh : Int) (ia : In64 al) (ia2 : In64 ah) (ib : In64 bl) (ib2 : In64 bh)  (w : World) :
  Calls Tryd.prog 78 #[.int .i64 c, .agg #[.int .i64 al, .int .i64 ah], .agg #[.int .i64 bl, .int .i64 bh]] w fun e w' => e = .returned (.tuple #[.agg #[.int .i64 (bnarrow c ⟨al, ah⟩ ⟨bl, bh⟩).1.lo, .int .i64 (bnarrow c ⟨al, ah⟩ ⟨bl, bh⟩).1.hi], .agg #[.int .i64 (bnarrow c ⟨al, ah⟩ ⟨bl, bh⟩).2.1.lo, .int .i64 (bnarrow c ⟨al, ah⟩ ⟨bl, bh⟩).2.1.hi], .bool (bnarrow c ⟨al, ah⟩ ⟨bl, bh⟩).2.2]) ∧ Below w.heap.size w w' := by
 have HW0 := Lib.hid (Below.refl w.heap.size w)
 have e : bnarrow c ⟨al, ah⟩ ⟨bl, bh⟩ = (⟨al, ah⟩, ⟨bl, bh⟩, true) := by unfold bnarrow; repeat rw [if_neg (by omega)]
 rw [e]
 clear ia ia2 ib ib2 e
 have t15 : (c == 15) = false := by rw [beq_eq_false_iff_ne]; omega
 have t16 : (c == 16) = false := by rw [beq_eq_false_iff_ne]; omega
 have t17 : (c == 17) = false := by rw [beq_eq_false_iff_ne]; omega
 have t18 : (c == 18) = false := by rw [beq_eq_false_iff_ne]; omega
 have t19 : (c == 19) = false := by rw [beq_eq_false_iff_ne]; omega
 have t20 : (c == 20) = false := by rw [beq_eq_false_iff_ne]; omega
 have t21 : (c == 21) = false := by rw [beq_eq_false_iff_ne]; omega
 have t22 : (c == 22) = false := by rw [beq_eq_false_iff_ne]; omega
 have t23 : (c == 23) = false := by rw [beq_eq_false_iff_ne]; omega
 have t24 : (c == 24) = false := by rw [beq_eq_false_iff_ne]; omega
 clear hc
 go_enter Tryd.func78, Tryd.ntmps78
 go_wp2_with fail
 go_region
 go_wp2_with fail
 exact bodyPost_ret (v := .tuple #[.agg #[.int .i64 (al), .int .i64 (ah)], .agg #[.int .i64 (bl), .int .i64 (bh)], .bool (true)]) (by simp [results, Tryd.results78, go_sem]) rfl ⟨by first | rfl | (simp [bnil, bswap]; done), (by repeat' (first | with_reducible (first | exact HW0.out | apply bR | apply bD | apply bN | apply bA | apply bS) | (simp; done) | (simp; omega) | omega))⟩

theorem RefNarrow_any (c al ah bl bh : Int) (ia : In64 al) (ia2 : In64 ah) (ib : In64 bl) (ib2 : In64 bh) (ha : al ≤ ah) (hb : bl ≤ bh) (w : World) :
  Calls Tryd.prog 78 #[.int .i64 c, .agg #[.int .i64 al, .int .i64 ah], .agg #[.int .i64 bl, .int .i64 bh]] w fun e w' => e = .returned (.tuple #[.agg #[.int .i64 (bnarrow c ⟨al, ah⟩ ⟨bl, bh⟩).1.lo, .int .i64 (bnarrow c ⟨al, ah⟩ ⟨bl, bh⟩).1.hi], .agg #[.int .i64 (bnarrow c ⟨al, ah⟩ ⟨bl, bh⟩).2.1.lo, .int .i64 (bnarrow c ⟨al, ah⟩ ⟨bl, bh⟩).2.1.hi], .bool (bnarrow c ⟨al, ah⟩ ⟨bl, bh⟩).2.2]) ∧ Below w.heap.size w w' := by
 by_cases hc : c < 15 ∨ 24 < c
 ·exact RefN_oth c hc al ah bl bh ia ia2 ib ib2 w
 have hc' : c = 15 ∨ c = 16 ∨ c = 17 ∨ c = 18 ∨ c = 19 ∨ c = 20 ∨ c = 21 ∨ c = 22 ∨ c = 23 ∨ c = 24 := by omega
 rcases hc' with rfl | rfl | rfl | rfl | rfl | rfl | rfl | rfl | rfl | rfl
 ·exact RefN_15 al ah bl bh ia ia2 ib ib2 w
 ·exact RefN_16 al ah bl bh ia ia2 ib ib2 ha hb w
 ·exact RefN_17 al ah bl bh ia ia2 ib ib2 w
 ·exact RefN_18 al ah bl bh ia ia2 ib ib2 w
 ·exact RefN_19 al ah bl bh ia ia2 ib ib2 w
 ·exact RefN_20 al ah bl bh ia ia2 ib ib2 w
 ·exact RefN_21 al ah bl bh ia ia2 ib ib2 w
 ·exact RefN_22 al ah bl bh ia ia2 ib ib2 w
 ·exact RefN_23 al ah bl bh ia ia2 ib ib2 w
 ·exact RefN_24 al ah bl bh ia ia2 ib ib2 w

end Go.Proofs.YtfpoicdfkjbknaaDoor.W
