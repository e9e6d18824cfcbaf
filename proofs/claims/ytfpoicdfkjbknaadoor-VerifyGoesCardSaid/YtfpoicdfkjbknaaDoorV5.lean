/- The walk of verify.store. Conditions: what is known lies in a block of 81 cells, its bounds in order. -/
import Derived.Test.YtfpoicdfkjbknaaDoorV4
namespace Go.Proofs.YtfpoicdfkjbknaaDoor.W
open Go.RowKit Go.Proofs.YtfpoicdfkjbknaaDoor.P
set_option linter.unusedSimpArgs false
set_option linter.unusedVariables false

set_option maxRecDepth 100000 in
set_option maxHeartbeats 1000000 in
theorem VStore_err (b : Nat) (w : World) (a x : Wh) (ha : WOk a) (o : Int) (ho : In64 o) (d : B) (er : Int) (hke : vfar a o = (d, er)) (he : er ≠ 0) :
  Calls Tryd.prog 63 #[.pointer (some ⟨b, 0, none⟩), .agg #[.int .i64 a.kind, .int .i64 a.b.lo, .int .i64 a.b.hi], .int .i64 o, .agg #[.int .i64 x.kind, .int .i64 x.b.lo, .int .i64 x.b.hi]] w fun e w' =>
   e = .returned (.int .i64 er) ∧ Below w.heap.size w w' := by
 have HW0 := Lib.hid (Below.refl w.heap.size w)
 have C := Lib.hid (fun w => VFar_any a o ha ho w)
 have HK := Lib.hid hke
 have he2 := vbne_yes he
 clear hke he ha ho
 go_enter Tryd.func63, Tryd.ntmps63
 go_wp2_with fail
 refine (C.out _).mono ?_
 rw [HK.out]
 (rintro e w1 ⟨rfl, hb⟩; obtain ⟨hc1, hf1⟩ := bcell hb; have hz1 := hb.size; (try simp at hz1); have HW1 := Lib.hid (show Below w.heap.size w w1 from Below.trans (by repeat' (first | with_reducible (first | exact HW0.out | apply bR | apply bD | apply bN | apply bA | apply bS) | (simp; done) | (simp; omega) | omega)) (hb.mono (by first | omega | simp <;> omega))); clear hb; (try have z10 : w.heap.size < w1.heap.size := by omega); (try have z11 : w.heap.size + 1 < w1.heap.size := by omega); (try have z12 : w.heap.size + 1 + 1 < w1.heap.size := by omega))
 clear hc1 hf1
 go_wp2_with fail
 go_ret
 exact ⟨rfl, (by repeat' (first | with_reducible (first | exact HW1.out | apply bR | apply bD | apply bN | apply bA | apply bS) | (simp; done) | (simp; omega) | omega))⟩

set_option maxRecDepth 100000 in
set_option maxHeartbeats 1000000 in
/-- nothing is stored -/
theorem VStore_flat (b : Nat) (w : World) (k l h : Int) (x : Wh) (ha : B.Ok ⟨l, h⟩) (hk : k = 2 ∨ k = 3 ∨ k = 4) (o : Int) (ho : In64 o) (L H r : Int) (hke : vfar ⟨k, ⟨l, h⟩⟩ o = (⟨L, H⟩, 0))
  (hr : (k = 2 ∧ r = 6) ∨ (k ≠ 2 ∧ x.kind = 0 ∧ r = 8) ∨ (k = 4 ∧ x.kind ≠ 0 ∧ x.kind ≠ 1 ∧ r = 1) ∨ (k = 4 ∧ x.kind = 1 ∧ r = 0) ∨ (k = 3 ∧ x.kind ≠ 0 ∧ L ≠ H ∧ r = 2)) :
  Calls Tryd.prog 63 #[.pointer (some ⟨b, 0, none⟩), .agg #[.int .i64 k, .int .i64 l, .int .i64 h], .int .i64 o, .agg #[.int .i64 x.kind, .int .i64 x.b.lo, .int .i64 x.b.hi]] w fun e w' =>
   e = .returned (.int .i64 r) ∧ Below w.heap.size w w' := by
 have HW0 := Lib.hid (Below.refl w.heap.size w)
 have C := Lib.hid (fun w => VFar_any ⟨k, ⟨l, h⟩⟩ o ⟨by simp only; omega, ha⟩ ho w)
 have HK := Lib.hid hke
 clear hke ha ho
 obtain ⟨xk, ⟨xl, xh⟩⟩ := x
 simp only at hr
 rcases hr with ⟨rfl, rfl⟩ | ⟨h2, rfl, rfl⟩ | ⟨rfl, h0, h1, rfl⟩ | ⟨rfl, rfl, rfl⟩ | ⟨rfl, h0, h1, rfl⟩
 all_goals (try (have t0 := vbeq_no h0)); (try (have t1 := vbne_yes h1)); (try (have t2 := vbeq_no h2)); (try clear h0); (try clear h1); (try clear h2)
 all_goals
  clear hk
  go_enter Tryd.func63, Tryd.ntmps63
  go_wp2_with fail
  refine (C.out _).mono ?_
  rw [HK.out]
  rintro e w1 ⟨rfl, hb⟩
  obtain ⟨hc1, hf1⟩ := bcell hb
  have hz1 := hb.size
  simp at hz1
  have HW1 := Lib.hid (show Below w.heap.size w w1 from Below.trans (by repeat' (first | with_reducible (first | exact HW0.out | apply bR | apply bD | apply bN | apply bA | apply bS) | (simp; done) | (simp; omega) | omega)) (hb.mono (by first | omega | simp <;> omega)))
  clear hb
  have z10 : w.heap.size < w1.heap.size := by omega
  have z11 : w.heap.size + 1 < w1.heap.size := by omega
  have A0 := (hc1 w.heap.size 0 (by first | omega | simp <;> omega)).trans (show _ = some _ by simp [go_sem]; rfl)
  have B0 := (hc1 (w.heap.size + 1) 0 (by first | omega | simp <;> omega)).trans (show _ = some _ by simp [go_sem]; rfl)
  clear hc1 hf1
  go_wp2_with fail
  go_ret
  exact ⟨rfl, (by repeat' (first | with_reducible (first | exact HW1.out | apply bR | apply bD | apply bN | apply bA | apply bS) | (simp; done) | (simp; omega) | omega))⟩

set_option maxRecDepth 100000 in
set_option maxHeartbeats 1000000 in
theorem VStore_slot (b : Nat) (s : VS) (w : World) (hI : P.Img w b 81 (simg wcell s)) (l h : Int) (ha : B.Ok ⟨l, h⟩) (o : Int) (ho : In64 o) (x : Wh) (hx : x.kind ≠ 0) (q : Nat) (hq : q < 16) (hke : vfar ⟨3, ⟨l, h⟩⟩ o = (⟨(q : Int) - 16, (q : Int) - 16⟩, 0)) :
  Calls Tryd.prog 63 #[.pointer (some ⟨b, 0, none⟩), .agg #[.int .i64 3, .int .i64 l, .int .i64 h], .int .i64 o, .agg #[.int .i64 x.kind, .int .i64 x.b.lo, .int .i64 x.b.hi]] w fun e w' =>
   e = .returned (.int .i64 0) ∧ P.Img w' b 81 (simg wcell { s with slots := upd s.slots q x }) ∧ But b w w' := by
 have HW0 := Lib.hid (Below.refl w.heap.size w)
 have hlt := hI.lt (by omega)
 have C := Lib.hid (fun w => VFar_any ⟨3, ⟨l, h⟩⟩ o ⟨by simp, ha⟩ ho w)
 have q7 : (q : Int) < 16 := by omega
 have HI := Lib.hid hI
 have HK := Lib.hid hke
 clear hI hke ha ho
 have e16 : (q : Int) - 16 + 16 = q := by omega
 have e3 := vbeq_no hx
 clear hx
 obtain ⟨xk, ⟨xl, xh⟩⟩ := x
 simp only at e3 ⊢
 go_enter Tryd.func63, Tryd.ntmps63
 go_wp2_with fail
 refine (C.out _).mono ?_
 rw [HK.out]
 (rintro e w1 ⟨rfl, hb⟩; obtain ⟨hc1, hf1⟩ := bcell hb; have hz1 := hb.size; (try simp at hz1); have HW1 := Lib.hid (show Below w.heap.size w w1 from Below.trans (by repeat' (first | with_reducible (first | exact HW0.out | apply bR | apply bD | apply bN | apply bA | apply bS) | (simp; done) | (simp; omega) | omega)) (hb.mono (by first | omega | simp <;> omega))); clear hb; (try have z10 : w.heap.size < w1.heap.size := by omega); (try have z11 : w.heap.size + 1 < w1.heap.size := by omega); (try have z12 : w.heap.size + 1 + 1 < w1.heap.size := by omega))
 (have k1_w_heap_size_0 : w1.cell? ⟨w.heap.size, 0, none⟩ = some (.int .i64 3) := (by rw [hc1 _ _ (by first | omega | simp <;> omega)]; first | (simp [go_sem]; done) | assumption | (simp [go_sem, *]; done)); have r1_w_heap_size_0 : w1.frozen? ⟨w.heap.size, 0, none⟩ = false := (by rw [hf1 _ _ (by first | omega | simp <;> omega)]; first | (simp [go_sem]; done) | assumption | (simp [go_sem, *]; done)); have k1_w_heap_size_1 : w1.cell? ⟨w.heap.size, 1, none⟩ = some (.int .i64 l) := (by rw [hc1 _ _ (by first | omega | simp <;> omega)]; first | (simp [go_sem]; done) | assumption | (simp [go_sem, *]; done)); have r1_w_heap_size_1 : w1.frozen? ⟨w.heap.size, 1, none⟩ = false := (by rw [hf1 _ _ (by first | omega | simp <;> omega)]; first | (simp [go_sem]; done) | assumption | (simp [go_sem, *]; done)); have k1_w_heap_size_2 : w1.cell? ⟨w.heap.size, 2, none⟩ = some (.int .i64 h) := (by rw [hc1 _ _ (by first | omega | simp <;> omega)]; first | (simp [go_sem]; done) | assumption | (simp [go_sem, *]; done)); have r1_w_heap_size_2 : w1.frozen? ⟨w.heap.size, 2, none⟩ = false := (by rw [hf1 _ _ (by first | omega | simp <;> omega)]; first | (simp [go_sem]; done) | assumption | (simp [go_sem, *]; done)))
 (have k1_w_heap_size_1_0 : w1.cell? ⟨w.heap.size + 1, 0, none⟩ = some (.int .i64 xk) := (by rw [hc1 _ _ (by first | omega | simp <;> omega)]; first | (simp [go_sem]; done) | assumption | (simp [go_sem, *]; done)); have r1_w_heap_size_1_0 : w1.frozen? ⟨w.heap.size + 1, 0, none⟩ = false := (by rw [hf1 _ _ (by first | omega | simp <;> omega)]; first | (simp [go_sem]; done) | assumption | (simp [go_sem, *]; done)); have k1_w_heap_size_1_1 : w1.cell? ⟨w.heap.size + 1, 1, none⟩ = some (.int .i64 xl) := (by rw [hc1 _ _ (by first | omega | simp <;> omega)]; first | (simp [go_sem]; done) | assumption | (simp [go_sem, *]; done)); have r1_w_heap_size_1_1 : w1.frozen? ⟨w.heap.size + 1, 1, none⟩ = false := (by rw [hf1 _ _ (by first | omega | simp <;> omega)]; first | (simp [go_sem]; done) | assumption | (simp [go_sem, *]; done)); have k1_w_heap_size_1_2 : w1.cell? ⟨w.heap.size + 1, 2, none⟩ = some (.int .i64 xh) := (by rw [hc1 _ _ (by first | omega | simp <;> omega)]; first | (simp [go_sem]; done) | assumption | (simp [go_sem, *]; done)); have r1_w_heap_size_1_2 : w1.frozen? ⟨w.heap.size + 1, 2, none⟩ = false := (by rw [hf1 _ _ (by first | omega | simp <;> omega)]; first | (simp [go_sem]; done) | assumption | (simp [go_sem, *]; done)))
 have I1 := HI.out.later HW1.out hlt
 have d0 := I1.cell (33 + q * 3) (by omega)
 have d1 := I1.cell (33 + q * 3 + 1) (by omega)
 have d2 := I1.cell (33 + q * 3 + 2) (by omega)
 have s0 := I1.free (33 + q * 3) (by omega)
 have s1 := I1.free (33 + q * 3 + 1) (by omega)
 have s2 := I1.free (33 + q * 3 + 2) (by omega)
 have zb1 : b < w1.heap.size := I1.lt (by omega)
 have zb2 : b < w1.heap.size + 1 := by omega
 have HI1 := Lib.hid I1
 clear hc1 hf1 I1
 go_wp2_with fail
 go_region
 all_goals
  go_wp2_with fail
  go_ret
  refine ⟨rfl, ?_, (by repeat' (first | with_reducible (first | exact (But.of HW1.out) | exact But.refl _ _ | refine But.drew ?_ | refine But.drewN ?_ _ | refine But.alloc ?_ _ | refine But.setCell ?_ ?_ _) | (exact .inl rfl) | (simp; done) | (simp; omega) | omega))⟩
  have K := fun o => Img.alloc ((((HI1.out.set (j := 33 + q * 3) (by omega) (wcell ⟨xk, ⟨xl, xh⟩⟩ 0)).set (j := 33 + q * 3 + 1) (by omega) (wcell ⟨xk, ⟨xl, xh⟩⟩ 1)).set (j := 33 + q * 3 + 2) (by omega) (wcell ⟨xk, ⟨xl, xh⟩⟩ 2)).congr (simg_setslot hq ⟨xk, ⟨xl, xh⟩⟩)) o
  first | exact K _ | exact (K _).drew

theorem VStore_any (b : Nat) (s : VS) (w : World) (hI : P.Img w b 81 (simg wcell s)) (a : Wh) (ha : WOk a) (o : Int) (ho : In64 o) (x : Wh) :
  Calls Tryd.prog 63 #[.pointer (some ⟨b, 0, none⟩), .agg #[.int .i64 a.kind, .int .i64 a.b.lo, .int .i64 a.b.hi], .int .i64 o, .agg #[.int .i64 x.kind, .int .i64 x.b.lo, .int .i64 x.b.hi]] w fun e w' =>
   e = .returned (.int .i64 (s.store a o x).2) ∧ P.Img w' b 81 (simg wcell (s.store a o x).1) ∧ But b w w' := by
 have hlt := hI.lt (by omega)
 have flat : ∀ {r : Int} {w' : World} {e : Ending}, e = .returned (.int .i64 r) ∧ Below w.heap.size w w' → e = .returned (.int .i64 r) ∧ P.Img w' b 81 (simg wcell s) ∧ But b w w' := fun h => ⟨h.1, hI.later h.2 hlt, But.of h.2⟩
 by_cases he : (vfar a o).2 = 0
 ·have hk := vfar_kind ha he
  obtain ⟨-, hlo, hhi⟩ := vfar_at ha he
  have hok := vfar_ok ha ho
  unfold VS.store
  rw [if_neg (by simp [he])]
  obtain ⟨k, ⟨l, h⟩⟩ := a
  simp only at hk
  generalize hv : vfar ⟨k, ⟨l, h⟩⟩ o = v at *
  obtain ⟨⟨L, H⟩, er⟩ := v
  simp only at he hlo hhi hok ⊢
  subst he
  by_cases h2 : k = 2
  ·rw [if_pos h2]
   exact (VStore_flat b w k l h x ha.2 hk o ho L H 6 hv (.inl ⟨h2, rfl⟩)).mono fun e w' => flat
  rw [if_neg h2]
  by_cases h0 : x.kind = 0
  ·rw [if_pos h0]
   exact (VStore_flat b w k l h x ha.2 hk o ho L H 8 hv (.inr (.inl ⟨h2, h0, rfl⟩))).mono fun e w' => flat
  rw [if_neg h0]
  by_cases h4 : k = 4
  ·by_cases h1 : x.kind = 1
   ·rw [if_neg (by omega), if_pos h4]
    exact (VStore_flat b w k l h x ha.2 hk o ho L H 0 hv (.inr (.inr (.inr (.inl ⟨h4, h1, rfl⟩))))).mono fun e w' => flat
   ·rw [if_pos ⟨h4, h1⟩]
    exact (VStore_flat b w k l h x ha.2 hk o ho L H 1 hv (.inr (.inr (.inl ⟨h4, h0, h1, rfl⟩)))).mono fun e w' => flat
  rw [if_neg (by omega), if_neg h4]
  have h3 : k = 3 := by omega
  subst h3
  by_cases hl : L = H
  ·subst hl
   rw [if_neg (by simp)]
   simp only [low, high, if_true] at hlo hhi
   obtain ⟨q, hq⟩ := Int.eq_ofNat_of_zero_le (show 0 ≤ L + 16 by omega)
   have e : (L + 16).toNat = q := by omega
   rw [e]
   obtain rfl : L = (q : Int) - 16 := by omega
   exact VStore_slot b s w hI l h ha.2 o ho x h0 q (by omega) hv
  ·rw [if_pos hl]
   exact (VStore_flat b w 3 l h x ha.2 hk o ho L H 2 hv (.inr (.inr (.inr (.inr ⟨rfl, h0, hl, rfl⟩))))).mono fun e w' => flat
 ·have e : s.store a o x = (s, (vfar a o).2) := by unfold VS.store; rw [if_pos he]
  rw [e]
  exact (VStore_err b w a x ha o ho (vfar a o).1 (vfar a o).2 rfl he).mono fun e w' => flat
end Go.Proofs.YtfpoicdfkjbknaaDoor.W
