/- The walk of the reference's further: where a place is, so far on. Conditions: the bounds have their ends in order; the variable all holds the least and the greatest number. -/
import Derived.Test.YtfpoicdfkjbknaaDoorWalkRefB3
import Derived.Test.YtfpoicdfkjbknaaDoorPureVerOk
import Derived.Test.YtfpoicdfkjbknaaDoorVerImg
import Derived.Test.YtfpoicdfkjbknaaDoorCalm
import Derived.Outline
namespace Go.Proofs.YtfpoicdfkjbknaaDoor.W
open Go.RowKit Go.Proofs.YtfpoicdfkjbknaaDoor.P
set_option linter.unusedSimpArgs false
set_option linter.unusedVariables false

/-- the variable all -/
def AllAt (w : World) : Prop := w.cell? ⟨4, 0, none⟩ = some (.int .i64 (-9223372036854775808)) ∧ w.cell? ⟨4, 1, none⟩ = some (.int .i64 9223372036854775807)
theorem AllAt.lt {w : World} (h : AllAt w) : 4 < w.heap.size := block_lt_of_cell h.1
theorem AllAt.later {w w' : World} (h : AllAt w) (hb : Below w.heap.size w w') : AllAt w' := ⟨(hb.cell (p := ⟨4, 0, none⟩) h.lt).trans h.1, (hb.cell (p := ⟨4, 1, none⟩) h.lt).trans h.2⟩

set_option maxRecDepth 100000 in
set_option maxHeartbeats 1000000 in
theorem RSize_any (k : Int) (hk : k = 2 ∨ k = 3 ∨ k = 4) (w : World) :
  Calls Tryd.prog 69 #[.int .u8 (letter k)] w fun e w' => e = .returned (.agg #[.int .i64 (low k), .int .i64 (high k)]) ∧ Below w.heap.size w w' := by
 have HW0 := Lib.hid (Below.refl w.heap.size w)
 rcases hk with rfl | rfl | rfl
 all_goals
  unfold letter low high
  simp only [show ¬ (2 : Int) = 0 by decide, show ¬ (2 : Int) = 1 by decide, show ¬ (3 : Int) = 0 by decide, show ¬ (3 : Int) = 1 by decide, show ¬ (3 : Int) = 2 by decide, show ¬ (4 : Int) = 0 by decide, show ¬ (4 : Int) = 1 by decide, show ¬ (4 : Int) = 2 by decide, show ¬ (4 : Int) = 3 by decide, show ¬ (2 : Int) = 3 by decide, show ¬ (2 : Int) = 4 by decide, show ¬ (3 : Int) = 4 by decide, if_true, if_false]
  go_enter Tryd.func69, Tryd.ntmps69
  go_wp2_with fail
  refine bodyPost_ret ?_ rfl ⟨rfl, (by repeat' (first | with_reducible (first | exact HW0.out | apply bR | apply bD | apply bN | apply bA | apply bS) | (simp; done) | (simp; omega) | omega))⟩
  simp [results, Tryd.results69, go_sem]

set_option maxRecDepth 100000 in
set_option maxHeartbeats 1000000 in
theorem RFar_no (k lo hi : Int) (o : Int) (hk : k = 0 ∨ k = 1 ∨ k = 5) (w : World) (hg : AllAt w) :
  Calls Tryd.prog 57 #[.agg #[.int .u8 (letter k), .int .i64 lo, .int .i64 hi], .int .i64 o] w fun e w' => e = .returned (.tuple #[.agg #[.int .i64 (-9223372036854775808), .int .i64 9223372036854775807], .int .i64 (if k = 0 then 8 else 1)]) ∧ Below w.heap.size w w' := by
 have gz := hg.lt
 have HW0 := Lib.hid (Below.refl w.heap.size w)
 obtain ⟨hg0, hg1⟩ := hg
 have ng : ¬ 4 = w.heap.size + 1 := by omega
 rcases hk with rfl | rfl | rfl
 all_goals
  unfold letter
  simp only [show ¬ (5 : Int) = 0 by decide, show ¬ (5 : Int) = 1 by decide, show ¬ (5 : Int) = 2 by decide, show ¬ (5 : Int) = 3 by decide, show ¬ (5 : Int) = 4 by decide, show ¬ (1 : Int) = 0 by decide, if_true, if_false]
  go_enter Tryd.func57, Tryd.ntmps57
  go_wp2_with fail
  refine bodyPost_ret (v := _) ?_ rfl ⟨rfl, (by repeat' (first | with_reducible (first | exact HW0.out | apply bR | apply bD | apply bN | apply bA | apply bS) | (simp; done) | (simp; omega) | omega))⟩
  simp [results, Tryd.results57, go_sem]

theorem Img.zero2 {w : World} {b : Nat} {t : TypeId} (h : w.heap[b]? = some (.cells #[.int .i64 0, .int .i64 0] t (0, 0))) : P.Img w b 2 (fun _ => .int .i64 0) := by
 refine Img.of_cells h (by rfl) fun j hj => ?_
 rcases j with _ | _ | j
 ·rfl
 ·rfl
 ·omega

set_option maxRecDepth 100000 in
set_option maxHeartbeats 4000000 in
theorem RFar_place (k lo hi : Int) (o : Int) (hk : k = 2 ∨ k = 3 ∨ k = 4) (hb : P.B.Ok ⟨lo, hi⟩) (ho : In64 o) (w : World) (hg : AllAt w) :
  Calls Tryd.prog 57 #[.agg #[.int .u8 (letter k), .int .i64 lo, .int .i64 hi], .int .i64 o] w fun e w' => e = .returned (.tuple #[.agg #[.int .i64 (if (vfar ⟨k, ⟨lo, hi⟩⟩ o).2 = 0 then (vfar ⟨k, ⟨lo, hi⟩⟩ o).1 else ball).lo, .int .i64 (if (vfar ⟨k, ⟨lo, hi⟩⟩ o).2 = 0 then (vfar ⟨k, ⟨lo, hi⟩⟩ o).1 else ball).hi], .int .i64 (vfar ⟨k, ⟨lo, hi⟩⟩ o).2]) ∧ Below w.heap.size w w' := by
 have gz := hg.lt
 have HW0 := Lib.hid (Below.refl w.heap.size w)
 have c1 : ∀ wd dr os, Calls Tryd.prog 32 #[.int .i64 o] (Go.Sort.grow (redrawn wd dr) os) fun e w' => e = .returned (.agg #[.int .i64 o, .int .i64 o]) ∧ BelowAt (Go.Sort.grow (redrawn wd dr) os) w' := fun wd dr os => RefOne_any o _
 have c3 : ∀ wd dr os, Calls Tryd.prog 69 #[.int .u8 (letter k)] (Go.Sort.grow (redrawn wd dr) os) fun e w' => e = .returned (.agg #[.int .i64 (low k), .int .i64 (high k)]) ∧ BelowAt (Go.Sort.grow (redrawn wd dr) os) w' := fun wd dr os => RSize_any k hk _
 have c2 : ∀ wd dr os, AllAt wd → Calls Tryd.prog 79 #[.int .i64 2, .agg #[.int .i64 lo, .int .i64 hi], .agg #[.int .i64 o, .int .i64 o]] (Go.Sort.grow (redrawn wd dr) os) fun e w' => e = .returned (.agg #[.int .i64 (bdoes 2 ⟨lo, hi⟩ (bone o)).lo, .int .i64 (bdoes 2 ⟨lo, hi⟩ (bone o)).hi]) ∧ BelowAt (Go.Sort.grow (redrawn wd dr) os) w' := fun wd dr os h => RefBDoes_any 2 lo hi o o hb.1 hb.2.1 ho ho hb.2.2 (Int.le_refl _) _ (h.later (below_regrown wd dr os)).1 (h.later (below_regrown wd dr os)).2 (h.later (below_regrown wd dr os)).lt
 have hv : vfar ⟨k, ⟨lo, hi⟩⟩ o = if (bdoes 2 ⟨lo, hi⟩ (bone o)).lo < low k ∨ high k < (bdoes 2 ⟨lo, hi⟩ (bone o)).hi then (bnil, 2) else (bdoes 2 ⟨lo, hi⟩ (bone o), 0) := by
  unfold vfar; rw [if_neg (by simp only; omega), if_neg (by simp only; omega)]
 obtain ⟨R, hR⟩ : ∃ R, vfar ⟨k, ⟨lo, hi⟩⟩ o = R := ⟨_, rfl⟩
 rw [hR]
 rw [hR] at hv
 generalize bdoes 2 ⟨lo, hi⟩ (bone o) = d at *
 obtain ⟨dl, dh⟩ := d
 simp only at c2 hv
 have HV := Lib.hid hv
 have C1 := Lib.hid c1
 have C2 := Lib.hid c2
 have C3 := Lib.hid c3
 have hl : letter k = 116 ∨ letter k = 102 ∨ letter k = 99 := by rcases hk with rfl | rfl | rfl <;> simp [letter]
 generalize letter k = lt at *
 have t0 : (lt == 0) = false := by rw [beq_eq_false_iff_ne]; omega
 have t1 : (lt == 110) = false := by rw [beq_eq_false_iff_ne]; omega
 have t5 : (lt == 109) = false := by rw [beq_eq_false_iff_ne]; omega
 generalize low k = L at *
 generalize high k = H at *
 have HG := Lib.hid hg
 clear c1 c2 c3 ho hb hk hl hv hR hg
 go_enter Tryd.func57, Tryd.ntmps57
 go_wp2_with fail
 generalize hW : World.alloc (World.alloc w _) _ = wd
 have f0 : wd.cell? ⟨w.heap.size, 0, none⟩ = some (.int .u8 lt) := by rw [← hW]; simp [go_sem]
 have f1 : wd.cell? ⟨w.heap.size, 1, none⟩ = some (.int .i64 lo) := by rw [← hW]; simp [go_sem]
 have f2 : wd.cell? ⟨w.heap.size, 2, none⟩ = some (.int .i64 hi) := by rw [← hW]; simp [go_sem]
 have IR : P.Img wd (w.heap.size + 1) 2 (fun _ => .int .i64 0) := by
  rw [← hW]; exact Img.zero2 (t := 49) (by simpa using heap_alloc_new (World.alloc w _) _)
 have HB1 := Lib.hid (show Below w.heap.size w wd from hW ▸ (by repeat' (first | with_reducible (first | exact HW0.out | apply bR | apply bD | apply bN | apply bA | apply bS) | (simp; done) | (simp; omega) | omega)))
 have zd : w.heap.size + 1 < wd.heap.size := by rw [← hW]; simp
 have HGd := Lib.hid (HG.out.later HB1.out)
 have HIR := Lib.hid IR
 clear hW HG IR
 have k0 := cell_regrown f0; have k1 := cell_regrown f1; have k2 := cell_regrown f2
 refine wp_calm_tail2 10 8 9 6 7 49 49 (.cells #[.int .i64 0, .int .i64 0] 49 (0, 0)) (.cells #[.int .i64 0, .int .i64 0] 49 (0, 0)) (by kernel_rfl) (by kernel_rfl) (by kernel_rfl) (by kernel_rfl) (by kernel_rfl) (by kernel_rfl) (by kernel_rfl) (by kernel_rfl) (by decide) (fun _ => rfl) (fun w => by kernel_rfl) (fun w => by kernel_rfl) ?_
 (repeat (first | refine wpCalm_alloc (by rfl) ?_ | (refine wpCalm_step (by rfl) (fun K hK => ?_); go_simp; first | (refine hK _ ?_; clear hK K) | (apply Exists.intro; refine ⟨fun _ => ?_, hK _ ?_⟩; (first | exact C1.out _ _ _ | exact C3.out _ _ _ | exact C2.out _ _ _ HGd.out); clear hK K))))
 refine wpCalm_nil ?_
 intro A B wq hbq hA hzA hB hzB hAB
 have IA := Img.zero2 hzA
 have IB := Img.zero2 hzB
 have a0 := IA.cell 0 (by omega); have a1 := IA.cell 1 (by omega)
 have b0 := IB.cell 0 (by omega); have b1 := IB.cell 1 (by omega)
 have r0 := IA.free 0 (by omega); have r1 := IA.free 1 (by omega)
 have s0 := IB.free 0 (by omega); have s1 := IB.free 1 (by omega)
 have IRq := HIR.out.later hbq zd
 have q0 := IRq.cell 0 (by omega); have q1 := IRq.cell 1 (by omega)
 have p0 := IRq.free 0 (by omega); have p1 := IRq.free 1 (by omega)
 have hgq := HGd.out.later hbq
 have gzq := hgq.lt
 obtain ⟨hg0, hg1⟩ := hgq
 have HW1 := Lib.hid (HB1.out.trans (hbq.mono (by omega)))
 have nAB : ¬ A = B := hAB
 have nBA : ¬ B = A := Ne.symm hAB
 have n1 : ¬ A = w.heap.size + 1 := by omega
 have n2 : ¬ B = w.heap.size + 1 := by omega
 have n3 : ¬ w.heap.size + 1 = A := by omega
 have n4 : ¬ w.heap.size + 1 = B := by omega
 have n5 : ¬ 4 = A := by omega
 have n6 : ¬ 4 = B := by omega
 have n7 : ¬ A = 4 := by omega
 have n8 : ¬ B = 4 := by omega
 have mA : w.heap.size ≤ A := by omega
 have mB : w.heap.size ≤ B := by omega
 clear IA IB IRq hbq hzA hzB hAB k0 k1 k2 f0 f1 f2
 by_cases h1 : dl < L
 ·have hR2 := HV.out
  rw [if_pos (.inl h1)] at hR2
  subst hR2
  go_wp2_with fail
  refine bodyPost_ret (v := .tuple #[.agg #[.int .i64 (-9223372036854775808), .int .i64 9223372036854775807], .int .i64 2]) ?_ rfl ⟨rfl, (by repeat' (first | with_reducible (first | exact HW1.out | apply bR | apply bD | apply bN | apply bA | apply bS) | (simp; done) | (simp; omega) | omega))⟩
  simp [results, Tryd.results57, go_sem, *]
 ·by_cases h2 : H < dh
  ·have hR2 := HV.out
   rw [if_pos (.inr h2)] at hR2
   subst hR2
   go_wp2_with fail
   refine bodyPost_ret (v := .tuple #[.agg #[.int .i64 (-9223372036854775808), .int .i64 9223372036854775807], .int .i64 2]) ?_ rfl ⟨rfl, (by repeat' (first | with_reducible (first | exact HW1.out | apply bR | apply bD | apply bN | apply bA | apply bS) | (simp; done) | (simp; omega) | omega))⟩
   simp [results, Tryd.results57, go_sem, *]
  ·have hR2 := HV.out
   rw [if_neg (by omega)] at hR2
   subst hR2
   go_wp2_with fail
   refine bodyPost_ret (v := .tuple #[.agg #[.int .i64 dl, .int .i64 dh], .int .i64 0]) ?_ rfl ⟨rfl, (by repeat' (first | with_reducible (first | exact HW1.out | apply bR | apply bD | apply bN | apply bA | apply bS) | (simp; done) | (simp; omega) | omega))⟩
   simp [results, Tryd.results57, go_sem, *]

/-- what further gives: with an error all numbers -/
def rfar (a : Wh) (o : Int) : P.B × Int := (if (vfar a o).2 = 0 then (vfar a o).1 else ball, (vfar a o).2)
theorem RFar_any (a : Wh) (o : Int) (ha : WOk a) (ho : In64 o) (w : World) (hg : AllAt w) :
  Calls Tryd.prog 57 #[.agg #[.int .u8 (letter a.kind), .int .i64 a.b.lo, .int .i64 a.b.hi], .int .i64 o] w fun e w' => e = .returned (.tuple #[.agg #[.int .i64 (rfar a o).1.lo, .int .i64 (rfar a o).1.hi], .int .i64 (rfar a o).2]) ∧ Below w.heap.size w w' := by
 obtain ⟨k, ⟨lo, hi⟩⟩ := a
 obtain ⟨hk, hb⟩ := ha
 simp only at hk hb
 by_cases h : k = 0 ∨ k = 1 ∨ k = 5
 ·refine (RFar_no k lo hi o h w hg).mono fun e w' he => ?_
  have e1 : rfar ⟨k, ⟨lo, hi⟩⟩ o = (ball, if k = 0 then 8 else 1) := by
   have ev : vfar ⟨k, ⟨lo, hi⟩⟩ o = (bnil, if k = 0 then 8 else 1) := by
    unfold vfar
    simp only
    by_cases h0 : k = 0
    ·rw [if_pos h0, if_pos h0]
    ·rw [if_neg h0, if_neg h0, if_pos (by omega)]
   unfold rfar
   rw [ev]
   simp only
   rw [if_neg (by split <;> decide)]
  rw [e1]; exact he
 ·exact RFar_place k lo hi o (by omega) hb ho w hg
end Go.Proofs.YtfpoicdfkjbknaaDoor.W
