/- The walk of verify.load at several slots; load by contract. Conditions: what is known lies in a block of 81 cells, its bounds in order. -/
import Derived.Test.YtfpoicdfkjbknaaDoorV3
namespace Go.Proofs.YtfpoicdfkjbknaaDoor.W
open Go.RowKit Go.Proofs.YtfpoicdfkjbknaaDoor.P
set_option linter.unusedSimpArgs false
set_option linter.unusedVariables false

theorem vany_err8 {sl : Nat → Wh} {n k : Nat} {acc : B} (h : (sl k).kind = 0) : vany sl (n + 1) k acc = (Wh.nil, 8) := by
 unfold vany; rw [if_pos h]
theorem vany_err1 {sl : Nat → Wh} {n k : Nat} {acc : B} (h : (sl k).kind ≠ 0) (h1 : (sl k).kind ≠ 1) : vany sl (n + 1) k acc = (Wh.nil, 1) := by
 unfold vany; rw [if_neg h, if_pos h1]
theorem vany_next {sl : Nat → Wh} {n k : Nat} {acc : B} (h1 : (sl k).kind = 1) : vany sl (n + 1) k acc = vany sl n (k + 1) (bjoin acc (sl k).b) := by
 conv => lhs; unfold vany
 rw [if_neg (by omega), if_neg (by simp [h1])]

set_option maxRecDepth 100000 in
set_option maxHeartbeats 4000000 in
theorem VLoad_many (b : Nat) (s : VS) (w : World) (hI : P.Img w b 81 (simg wcell s)) (l h : Int) (ha : B.Ok ⟨l, h⟩) (o : Int) (ho : In64 o) (q m : Nat) (L H : Int) (hL : L + 16 = q) (hH : H = L + m - 1) (hm : 2 ≤ m) (hq : q + m ≤ 16) (hke : vfar ⟨3, ⟨l, h⟩⟩ o = (⟨L, H⟩, 0)) :
  Calls Tryd.prog 62 #[.pointer (some ⟨b, 0, none⟩), .agg #[.int .i64 3, .int .i64 l, .int .i64 h], .int .i64 o] w fun e w' =>
   e = .returned (.tuple #[.agg #[.int .i64 (vany s.slots m q (s.slots q).b).1.kind, .int .i64 (vany s.slots m q (s.slots q).b).1.b.lo, .int .i64 (vany s.slots m q (s.slots q).b).1.b.hi], .int .i64 (vany s.slots m q (s.slots q).b).2]) ∧ Below w.heap.size w w' := by
 have HW0 := Lib.hid (Below.refl w.heap.size w)
 have hlt := hI.lt (by omega)
 have C := Lib.hid (fun w => VFar_any ⟨3, ⟨l, h⟩⟩ o ⟨by simp, ha⟩ ho w)
 have HI := Lib.hid hI
 have HK := Lib.hid hke
 have HH := Lib.hid hH
 have HL := Lib.hid hL
 have ne := vbeq_no (show L ≠ H by omega)
 have l0 : -16 ≤ L := by omega
 have l1 : L < 0 := by omega
 have l2 : L ≤ H := by omega
 have l3 : H < 0 := by omega
 clear hI hke ha ho hH hL
 go_enter Tryd.func62, Tryd.ntmps62
 go_wp2_with fail
 refine (C.out _).mono ?_
 rw [HK.out]
 (rintro e w1 ⟨rfl, hb⟩; obtain ⟨hc1, hf1⟩ := bcell hb; have hz1 := hb.size; (try simp at hz1); have HW1 := Lib.hid (show Below w.heap.size w w1 from Below.trans (by repeat' (first | with_reducible (first | exact HW0.out | apply bR | apply bD | apply bN | apply bA | apply bS) | (simp; done) | (simp; omega) | omega)) (hb.mono (by first | omega | simp <;> omega))); clear hb; (try have z10 : w.heap.size < w1.heap.size := by omega); (try have z11 : w.heap.size + 1 < w1.heap.size := by omega); (try have z12 : w.heap.size + 1 + 1 < w1.heap.size := by omega))
 (have k1_w_heap_size_0 : w1.cell? ⟨w.heap.size, 0, none⟩ = some (.int .i64 3) := (by rw [hc1 _ _ (by first | omega | simp <;> omega)]; first | (simp [go_sem]; done) | assumption | (simp [go_sem, *]; done)); have r1_w_heap_size_0 : w1.frozen? ⟨w.heap.size, 0, none⟩ = false := (by rw [hf1 _ _ (by first | omega | simp <;> omega)]; first | (simp [go_sem]; done) | assumption | (simp [go_sem, *]; done)); have k1_w_heap_size_1 : w1.cell? ⟨w.heap.size, 1, none⟩ = some (.int .i64 l) := (by rw [hc1 _ _ (by first | omega | simp <;> omega)]; first | (simp [go_sem]; done) | assumption | (simp [go_sem, *]; done)); have r1_w_heap_size_1 : w1.frozen? ⟨w.heap.size, 1, none⟩ = false := (by rw [hf1 _ _ (by first | omega | simp <;> omega)]; first | (simp [go_sem]; done) | assumption | (simp [go_sem, *]; done)); have k1_w_heap_size_2 : w1.cell? ⟨w.heap.size, 2, none⟩ = some (.int .i64 h) := (by rw [hc1 _ _ (by first | omega | simp <;> omega)]; first | (simp [go_sem]; done) | assumption | (simp [go_sem, *]; done)); have r1_w_heap_size_2 : w1.frozen? ⟨w.heap.size, 2, none⟩ = false := (by rw [hf1 _ _ (by first | omega | simp <;> omega)]; first | (simp [go_sem]; done) | assumption | (simp [go_sem, *]; done)))
 have I1 := HI.out.later HW1.out hlt
 have R0 : w1.cell? ⟨w.heap.size + 1, 0, none⟩ = some (.int .i64 0) := (hc1 (w.heap.size + 1) 0 (by first | omega | simp <;> omega)).trans (by simp [go_sem])
 have R1 : w1.cell? ⟨w.heap.size + 1, 1, none⟩ = some (.int .i64 0) := (hc1 (w.heap.size + 1) 1 (by first | omega | simp <;> omega)).trans (by simp [go_sem])
 have R2 : w1.cell? ⟨w.heap.size + 1, 2, none⟩ = some (.int .i64 0) := (hc1 (w.heap.size + 1) 2 (by first | omega | simp <;> omega)).trans (by simp [go_sem])
 have F0 : w1.frozen? ⟨w.heap.size + 1, 0, none⟩ = false := (hf1 (w.heap.size + 1) 0 (by first | omega | simp <;> omega)).trans (by simp [go_sem])
 have F1 : w1.frozen? ⟨w.heap.size + 1, 1, none⟩ = false := (hf1 (w.heap.size + 1) 1 (by first | omega | simp <;> omega)).trans (by simp [go_sem])
 have F2 : w1.frozen? ⟨w.heap.size + 1, 2, none⟩ = false := (hf1 (w.heap.size + 1) 2 (by first | omega | simp <;> omega)).trans (by simp [go_sem])
 have HI1 := Lib.hid I1
 clear hc1 hf1 I1
 go_wp2_with fail
 have hW0 : Below w1.heap.size w1 (World.alloc (World.alloc w1 (.cells #[.int .i64 L, .int .i64 H] 52)) (.cells #[.int .i64 0, .int .i64 0, .int .i64 0] 110)) := ((Below.refl _ _).alloc (Nat.le_refl _) _).alloc (by simp) _
 go_loopw [12] (fun k wr => ∃ (i : Nat) (kk : Int) (acc : B), i ≤ m ∧ k = .int .i64 kk ∧ kk = L + i ∧ vany s.slots m q (s.slots q).b = vany s.slots (m - i) (q + i) acc ∧ (i = 0 → acc = (s.slots q).b) ∧
   P.Img wr (w1.heap.size + 1) 3 (fun j => if i = 0 then .int .i64 0 else wcell (Wh.num acc) j) ∧ wr.cell? ⟨w1.heap.size, 0, none⟩ = some (.int .i64 L) ∧ wr.cell? ⟨w1.heap.size, 1, none⟩ = some (.int .i64 H) ∧ Below w1.heap.size w1 wr) (fun k _ => (H + 1 - intOf k).toNat)
 case atStart =>
  refine ⟨0, L, (s.slots q).b, by omega, rfl, by simp, by simp, fun _ => rfl, ?_, by simp [go_sem], by simp [go_sem], hW0⟩
  refine Img.of_cells (by simpa using heap_alloc_new (World.alloc w1 _) _) (by rfl) fun j hj => ?_
  rcases j with _ | _ | _ | j
  ·rfl
  ·rfl
  ·rfl
  ·omega
 case round =>
  obtain ⟨i, kk, acc, him, rfl, hkk, hv, hacc, hIm, hL0, hL1, hB⟩ := hrel
  have HV := Lib.hid hv
  have HA := Lib.hid hacc
  have HIM := Lib.hid hIm
  have HB := Lib.hid hB
  have HKK := Lib.hid hkk
  have G0 := (hB.cell (p := ⟨w.heap.size + 1, 0, none⟩) z11).trans R0
  have G1 := (hB.cell (p := ⟨w.heap.size + 1, 1, none⟩) z11).trans R1
  have G2 := (hB.cell (p := ⟨w.heap.size + 1, 2, none⟩) z11).trans R2
  have E0 := (hB.frozen (p := ⟨w.heap.size + 1, 0, none⟩) z11).trans F0
  have E1 := (hB.frozen (p := ⟨w.heap.size + 1, 1, none⟩) z11).trans F1
  have E2 := (hB.frozen (p := ⟨w.heap.size + 1, 2, none⟩) z11).trans F2
  have HBW := Lib.hid (HW1.out.trans (hB.mono (by omega)))
  have zr : w1.heap.size + 1 < wr.heap.size := hIm.lt (by omega)
  have y0 := hIm.free 0 (by omega)
  have y1 := hIm.free 1 (by omega)
  have y2 := hIm.free 2 (by omega)
  have zr1 : w.heap.size + 1 < wr.heap.size := by omega
  have zr2 : w.heap.size < wr.heap.size := by omega
  have zr3 : w1.heap.size < wr.heap.size := by omega
  have zr4 : b < wr.heap.size := by omega
  have zn1 : ¬ wr.heap.size = w1.heap.size + 1 := by omega
  have zn2 : ¬ w1.heap.size + 1 = wr.heap.size := by omega
  by_cases hlt2 : i < m
  ·obtain ⟨n, hn⟩ : ∃ n, m - i = n + 1 := ⟨m - i - 1, by omega⟩
   obtain ⟨j, hj⟩ : ∃ j, q + i = j := ⟨_, rfl⟩
   have hk : j < 16 := by omega
   have hll := lcells (HI1.out.later hB (by omega)) hk
   obtain ⟨d0, d1, d2⟩ := hll
   have e16 : kk + 16 = (j : Int) := by have := HL.out; omega
   have k1 : kk ≤ H := by have := HH.out; omega
   have k2 : 0 ≤ kk + 16 := by omega
   have k3 : (j : Int) < 16 := by omega
   have k4 : (0 : Int) ≤ (j : Int) := by omega
   have s16 : IntKind.i64.wrap (kk + 16) = (j : Int) := by rw [e16]; exact IntWalk.i64_in _ (by omega)
   have hst : Hid (m - (i + 1) = n ∧ q + (i + 1) = j + 1 ∧ i + 1 ≤ m) := ⟨by omega, by omega, by omega⟩
   rw [hn, hj] at hv
   have HV := Lib.hid hv
   have HT : Hid (i = 0 → kk = L) := fun h => by rw [hkk, h]; simp
   have HT2 : Hid (i ≠ 0 → kk ≠ L) := fun h => by rw [hkk]; omega
   have HT3 : Hid (i = 0 → j = q) := fun h => by omega
   clear hv hacc hB hkk hj hn
   by_cases h0 : (s.slots j).kind = 0
   ·have t0 := vbeq_yes h0
    have hres := HV.out
    rw [vany_err8 h0] at hres
    have HRES := Lib.hid hres
    clear hres h0 hIm
    go_wp2_with fail
    refine bodyPost_ret (v := .tuple #[.agg #[.int .i64 0, .int .i64 0, .int .i64 0], .int .i64 8]) ?_ rfl ⟨by rw [HRES.out]; rfl, ?_⟩
    ·simp [results, Tryd.results62, go_sem, *]
    ·(repeat' (first | with_reducible exact HBW.out | with_reducible refine Below.setCell ?_ ?_ _ | with_reducible refine Below.alloc ?_ ?_ _ | (simp; done) | (simp; omega) | omega))
   ·by_cases h1 : (s.slots j).kind = 1
    ·have t1 := vbne_no h1
     have t0 := vbeq_no h0
     have hres := HV.out
     rw [vany_next h1] at hres
     have HRES := Lib.hid hres
     have h1' := Lib.hid h1
     clear hres h0 h1
     by_cases hi0 : i = 0
     ·have x0 : wr.cell? ⟨w1.heap.size + 1, 0, none⟩ = some (.int .i64 0) := by have := hIm.cell 0 (by omega); simpa [hi0] using this
      have x1 : wr.cell? ⟨w1.heap.size + 1, 1, none⟩ = some (.int .i64 0) := by have := hIm.cell 1 (by omega); simpa [hi0] using this
      have x2 : wr.cell? ⟨w1.heap.size + 1, 2, none⟩ = some (.int .i64 0) := by have := hIm.cell 2 (by omega); simpa [hi0] using this
      have t2 := vbeq_yes (HT.out hi0)
      have HI0 := Lib.hid hi0
      clear hIm hi0
      go_wp2_with fail
      go_roundw
      case rel =>
       go_light
       refine ⟨i + 1, kk + 1, (s.slots j).b, hst.out.2.2, rfl, by have := HKK.out; push_cast; omega, ?_, fun h => absurd h (by omega), ?_, by simp [go_sem, *], by simp [go_sem, *], ?_⟩
       ·have hjq := HT3.out HI0.out
        rw [hst.out.1, hst.out.2.1, HRES.out, HA.out HI0.out, show s.slots q = s.slots j by rw [hjq], bjoin_self]
       ·refine (Img.alloc ((((HIM.out.set (j := 0) (by omega) _).set (j := 1) (by omega) _).set (j := 2) (by omega) _)) _).congr fun t ht => ?_
        rcases t with _ | _ | _ | t
        ·simp [upd, wcell, Wh.num, h1'.out]
        ·simp [upd, wcell, Wh.num]
        ·simp [upd, wcell, Wh.num]
        ·omega
       ·(repeat' (first | with_reducible exact HB.out | with_reducible refine Below.setCell ?_ ?_ _ | with_reducible refine Below.alloc ?_ ?_ _ | (simp; done) | (simp; omega) | omega))
      case measure => simp [intOf]; omega
     ·have hx0 := hIm.cell 0 (by omega)
      have hx1 := hIm.cell 1 (by omega)
      have hx2 := hIm.cell 2 (by omega)
      simp only [hi0, if_false] at hx0 hx1 hx2
      have x0 : wr.cell? ⟨w1.heap.size + 1, 0, none⟩ = some (.int .i64 1) := hx0
      have x1 : wr.cell? ⟨w1.heap.size + 1, 1, none⟩ = some (.int .i64 acc.lo) := hx1
      have x2 : wr.cell? ⟨w1.heap.size + 1, 2, none⟩ = some (.int .i64 acc.hi) := hx2
      have t2 := vbeq_no (HT2.out hi0)
      have HI0 := Lib.hid hi0
      clear hIm hi0 hx0 hx1 hx2
      go_wp2_with fail
      refine (Join_any _ _ _ _ _).mono ?_
      rintro e w2 ⟨rfl, hb2⟩
      have HX2 := Lib.hid (Below.trans (Below.alloc (Below.refl w1.heap.size wr) (by omega) _) (hb2.mono (by simp; omega)))
      have hz2 := hb2.size
      simp at hz2
      have zz1 : w1.heap.size + 1 < (World.alloc wr (.cells #[.int .i64 (s.slots j).kind, .int .i64 (s.slots j).b.lo, .int .i64 (s.slots j).b.hi] 110)).heap.size := by simp; omega
      have zz2 : w1.heap.size < (World.alloc wr (.cells #[.int .i64 (s.slots j).kind, .int .i64 (s.slots j).b.lo, .int .i64 (s.slots j).b.hi] 110)).heap.size := by simp; omega
      have I2 := (HIM.out.alloc (.cells #[.int .i64 (s.slots j).kind, .int .i64 (s.slots j).b.lo, .int .i64 (s.slots j).b.hi] 110)).later hb2 zz1
      have u1 := I2.cell 1 (by omega)
      have u2 := I2.cell 2 (by omega)
      have v1 := I2.free 1 (by omega)
      have v2 := I2.free 2 (by omega)
      have HI2 := Lib.hid I2
      have b0 : w2.cell? ⟨w1.heap.size, 0, none⟩ = some (.int .i64 L) := (hb2.cell (p := ⟨w1.heap.size, 0, none⟩) zz2).trans (by simp [go_sem, *])
      have b1 : w2.cell? ⟨w1.heap.size, 1, none⟩ = some (.int .i64 H) := (hb2.cell (p := ⟨w1.heap.size, 1, none⟩) zz2).trans (by simp [go_sem, *])
      clear hb2 I2 zz1 zz2
      go_wp2_with fail
      go_roundw
      case rel =>
       go_light
       refine ⟨i + 1, kk + 1, bjoin acc (s.slots j).b, hst.out.2.2, rfl, by have := HKK.out; push_cast; omega, ?_, fun h => absurd h (by omega), ?_, by simp [go_sem, *], by simp [go_sem, *], ?_⟩
       ·rw [hst.out.1, hst.out.2.1, HRES.out]
       ·refine (((HI2.out.set (j := 1) (by omega) _).set (j := 2) (by omega) _)).congr fun t ht => ?_
        have := HI0.out
        rcases t with _ | _ | _ | t
        ·simp [upd, wcell, Wh.num, this]
        ·simp [upd, wcell, Wh.num, bjoin]
        ·simp [upd, wcell, Wh.num, bjoin]
        ·omega
       ·(repeat' (first | with_reducible exact HB.out.trans HX2.out | with_reducible exact HX2.out | with_reducible refine Below.setCell ?_ ?_ _ | with_reducible refine Below.alloc ?_ ?_ _ | (simp; done) | (simp; omega) | omega))
      case measure => simp [intOf]; omega
    ·have t1 := vbne_yes h1
     have t0 := vbeq_no h0
     have hres := HV.out
     rw [vany_err1 h0 h1] at hres
     have HRES := Lib.hid hres
     clear hres h0 h1 hIm
     go_wp2_with fail
     refine bodyPost_ret (v := .tuple #[.agg #[.int .i64 0, .int .i64 0, .int .i64 0], .int .i64 1]) ?_ rfl ⟨by rw [HRES.out]; rfl, ?_⟩
     ·simp [results, Tryd.results62, go_sem, *]
     ·(repeat' (first | with_reducible exact HBW.out | with_reducible refine Below.setCell ?_ ?_ _ | with_reducible refine Below.alloc ?_ ?_ _ | (simp; done) | (simp; omega) | omega))
  ·obtain rfl : i = m := by omega
   have hx0 := hIm.cell 0 (by omega)
   have hx1 := hIm.cell 1 (by omega)
   have hx2 := hIm.cell 2 (by omega)
   have hi0 : ¬ i = 0 := by omega
   simp only [hi0, if_false] at hx0 hx1 hx2
   have x0 : wr.cell? ⟨w1.heap.size + 1, 0, none⟩ = some (.int .i64 1) := hx0
   have x1 : wr.cell? ⟨w1.heap.size + 1, 1, none⟩ = some (.int .i64 acc.lo) := hx1
   have x2 : wr.cell? ⟨w1.heap.size + 1, 2, none⟩ = some (.int .i64 acc.hi) := hx2
   have k1 : ¬ kk ≤ H := by have := HH.out; omega
   have hres := HV.out
   rw [Nat.sub_self] at hres
   have HRES : Hid (vany s.slots i q (s.slots q).b = (Wh.num acc, 0)) := hres
   clear hv hacc hB hkk hIm hx0 hx1 hx2 hres
   go_wp2_with fail
   refine bodyPost_ret (v := .tuple #[.agg #[.int .i64 1, .int .i64 acc.lo, .int .i64 acc.hi], .int .i64 0]) ?_ rfl ⟨by rw [HRES.out]; rfl, ?_⟩
   ·simp [results, Tryd.results62, go_sem, *]
   ·(repeat' (first | with_reducible exact HBW.out | with_reducible refine Below.setCell ?_ ?_ _ | with_reducible refine Below.alloc ?_ ?_ _ | (simp; done) | (simp; omega) | omega))

theorem VLoad_any (b : Nat) (s : VS) (w : World) (hI : P.Img w b 81 (simg wcell s)) (a : Wh) (ha : WOk a) (o : Int) (ho : In64 o) :
  Calls Tryd.prog 62 #[.pointer (some ⟨b, 0, none⟩), .agg #[.int .i64 a.kind, .int .i64 a.b.lo, .int .i64 a.b.hi], .int .i64 o] w fun e w' =>
   e = .returned (.tuple #[.agg #[.int .i64 (s.load a o).1.kind, .int .i64 (s.load a o).1.b.lo, .int .i64 (s.load a o).1.b.hi], .int .i64 (s.load a o).2]) ∧ Below w.heap.size w w' := by
 by_cases he : (vfar a o).2 = 0
 ·have hk := vfar_kind ha he
  obtain ⟨-, hlo, hhi⟩ := vfar_at ha he
  have hok := vfar_ok ha ho
  unfold VS.load
  rw [if_neg (by simp [he])]
  obtain ⟨k, ⟨l, h⟩⟩ := a
  simp only at hk
  generalize hv : vfar ⟨k, ⟨l, h⟩⟩ o = v at *
  obtain ⟨⟨L, H⟩, er⟩ := v
  simp only at he hlo hhi hok ⊢
  subst he
  by_cases h3 : k = 3
  ·subst h3
   rw [if_neg (by simp)]
   simp only [low, high, if_true] at hlo hhi
   have hLH := hok.2.2
   simp only at hLH
   by_cases hl : L = H
   ·subst hl
    rw [if_pos rfl]
    obtain ⟨q, hq⟩ := Int.eq_ofNat_of_zero_le (show 0 ≤ L + 16 by omega)
    have e : (L + 16).toNat = q := by omega
    rw [e]
    obtain rfl : L = (q : Int) - 16 := by omega
    refine (VLoad_one b s w hI l h ha.2 o ho q (by omega) hv (s.slots q) rfl).mono fun e w' he => ⟨he.1.trans ?_, he.2⟩
    split <;> rfl
   ·rw [if_neg hl]
    obtain ⟨q, hq⟩ := Int.eq_ofNat_of_zero_le (show 0 ≤ L + 16 by omega)
    obtain ⟨m, hm⟩ := Int.eq_ofNat_of_zero_le (show 0 ≤ H - L + 1 by omega)
    have e : (L + 16).toNat = q := by omega
    have e2 : (H - L + 1).toNat = m := by omega
    rw [e, e2]
    exact VLoad_many b s w hI l h ha.2 o ho q m L H hq (by omega) (by omega) (by omega) hv
  ·rw [if_pos h3]
   exact VLoad_told b s w k l h (by omega) ha.2 o ho _ hv
 ·have e : s.load a o = (.nil, (vfar a o).2) := by unfold VS.load; rw [if_pos he]
  rw [e]
  exact VLoad_err b s w a ha o ho (vfar a o).1 (vfar a o).2 rfl he
end Go.Proofs.YtfpoicdfkjbknaaDoor.W
