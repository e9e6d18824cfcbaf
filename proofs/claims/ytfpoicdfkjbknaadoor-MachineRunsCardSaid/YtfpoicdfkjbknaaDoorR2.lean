/- The walk of the reference's counts, way by way. Conditions: the box lies in a block whose cells are known. -/
import Derived.Test.YtfpoicdfkjbknaaDoorR1
namespace Go.Proofs.YtfpoicdfkjbknaaDoor.W
open Go.RowKit Go.Proofs.YtfpoicdfkjbknaaDoor.P
set_option linter.unusedSimpArgs false
set_option linter.unusedVariables false

set_option maxRecDepth 100000 in
set_option maxHeartbeats 2000000 in
theorem RefCounts_err (b n : Nat) (I : Nat → Value) (o : Nat) (ho : o + 2 < n) (w : World) (hI : Img w b n I) (c : Int) (xk xn xc yk yn yc er : Int) (h0 : I o = .int .u8 xk) (h1 : I (o + 1) = .int .i64 xn) (h2 : I (o + 2) = .int .i64 xc) (p : Value)
    (h : ((yk == 0) = true ∧ er = 8) ∨ ((yk == 0) = false ∧ (xk == 0) = true ∧ (c == 1) = false ∧ er = 8) ∨
      ((yk == 0) = false ∧ (xk == 0) = false ∧ (c == 1) = false ∧ ((xk == 110) = false ∨ (yk == 110) = false) ∧ ((c == 2) = false ∨ (xk == 110) = false) ∧ ((yk == 110) = false ∨ ((c == 2) = false ∧ (c == 3) = false)) ∧ er = 1)) :
    Calls Tryd.prog 42 #[p, .int .i64 c, .pointer (some ⟨b, o, none⟩), .agg #[.int .u8 yk, .int .i64 yn, .int .i64 yc]] w fun e w' =>
      e = .returned (.int .i64 er) ∧ Below w.heap.size w w' := by
  have HW0 := Lib.hid (Below.refl w.heap.size w)
  have c0 := (hI.cell o (by omega)).trans (congrArg some h0)
  have c1 := (hI.cell (o + 1) (by omega)).trans (congrArg some h1)
  have c2 := (hI.cell (o + 2) (by omega)).trans (congrArg some h2)
  have hlt := hI.lt (by omega)
  clear h0 h1 h2 hI
  rcases h with ⟨t0, rfl⟩ | ⟨t0, t1, t2, rfl⟩ | ⟨t0, t1, t2, t3, t4, t5, rfl⟩
  · go_enter Tryd.func42, Tryd.ntmps42
    go_wp2_with fail
    go_ret
    exact ⟨rfl, (by repeat' (first | with_reducible exact HW0.out | with_reducible exact Below.refl _ _ | with_reducible refine Below.drew ?_ | with_reducible refine Below.drewN' ?_ _ | with_reducible refine Below.alloc ?_ ?_ _ | with_reducible refine Below.setCell ?_ ?_ _ | (simp; done) | (simp; omega) | omega))⟩
  · have t2' : (c != 1) = true := by rw [bne_iff_ne]; exact beq_eq_false_iff_ne.1 t2
    go_enter Tryd.func42, Tryd.ntmps42
    go_wp2_with fail
    go_ret
    exact ⟨rfl, (by repeat' (first | with_reducible exact HW0.out | with_reducible exact Below.refl _ _ | with_reducible refine Below.drew ?_ | with_reducible refine Below.drewN' ?_ _ | with_reducible refine Below.alloc ?_ ?_ _ | with_reducible refine Below.setCell ?_ ?_ _ | (simp; done) | (simp; omega) | omega))⟩
  · have t2' : (c != 1) = true := by rw [bne_iff_ne]; exact beq_eq_false_iff_ne.1 t2
    rcases t3 with t3 | t3 <;> rcases t4 with t4 | t4 <;> rcases t5 with t5 | ⟨t5, t6⟩
    all_goals
      go_enter Tryd.func42, Tryd.ntmps42
      go_wp2_with fail
    all_goals
      first
      | (go_ret; exact ⟨rfl, (by repeat' (first | with_reducible exact HW0.out | with_reducible exact Below.refl _ _ | with_reducible refine Below.drew ?_ | with_reducible refine Below.drewN' ?_ _ | with_reducible refine Below.alloc ?_ ?_ _ | with_reducible refine Below.setCell ?_ ?_ _ | (simp; done) | (simp; omega) | omega))⟩)
      | (exfalso; simp_all; done)

set_option maxRecDepth 100000 in
set_option maxHeartbeats 2000000 in
theorem RefCounts_three (b n : Nat) (I : Nat → Value) (o : Nat) (ho : o + 2 < n) (w : World) (hI : Img w b n I) (c : Int) (xk xn xc yk yn yc m : Int) (h0 : I o = .int .u8 xk) (h1 : I (o + 1) = .int .i64 xn) (h2 : I (o + 2) = .int .i64 xc) (p : Value)
    (h : ((yk == 0) = false ∧ c = 1 ∧ m = yn) ∨ ((yk == 0) = false ∧ (xk == 110) = true ∧ (yk == 110) = false ∧ c = 2 ∧ m = wrap64 (yn + xn))) :
    Calls Tryd.prog 42 #[p, .int .i64 c, .pointer (some ⟨b, o, none⟩), .agg #[.int .u8 yk, .int .i64 yn, .int .i64 yc]] w fun e w' =>
      e = .returned (.int .i64 0) ∧ Below w.heap.size (((w.setCell ⟨b, o, none⟩ (.int .u8 yk)).setCell ⟨b, o + 1, none⟩ (.int .i64 m)).setCell ⟨b, o + 2, none⟩ (.int .i64 yc)) w' := by
  have HW0 := Lib.hid (Below.refl w.heap.size w)
  have c0 := (hI.cell o (by omega)).trans (congrArg some h0)
  have c1 := (hI.cell (o + 1) (by omega)).trans (congrArg some h1)
  have c2 := (hI.cell (o + 2) (by omega)).trans (congrArg some h2)
  have f0 := hI.free o (by omega)
  have f1 := hI.free (o + 1) (by omega)
  have f2 := hI.free (o + 2) (by omega)
  have hlt := hI.lt (by omega)
  have HI := Lib.hid hI
  clear h0 h1 h2 hI
  rcases h with ⟨t0, rfl, rfl⟩ | ⟨t0, t1, t2, rfl, hm⟩
  · cases hx : (xk == 0)
    all_goals
      go_enter Tryd.func42, Tryd.ntmps42
      go_wp2_with fail
      go_ret
      exact ⟨rfl, (by repeat' (first | with_reducible exact Below.refl _ _ | with_reducible refine Below.drew ?_ | with_reducible refine Below.alloc ?_ ?_ _ | (simp; done) | (simp; omega) | omega))⟩
  · have HM := Lib.hid hm
    have tx : (xk == 0) = false := by
      rw [beq_iff_eq] at t1; subst t1; rfl
    clear hm
    go_enter Tryd.func42, Tryd.ntmps42
    go_wp2_with fail
    go_ret
    rw [HM.out]
    exact ⟨rfl, (by repeat' (first | with_reducible exact Below.refl _ _ | with_reducible refine Below.drew ?_ | with_reducible refine Below.alloc ?_ ?_ _ | (simp; done) | (simp; omega) | omega))⟩

set_option maxRecDepth 100000 in
set_option maxHeartbeats 2000000 in
theorem RefCounts_num (b n : Nat) (I : Nat → Value) (o : Nat) (ho : o + 2 < n) (w : World) (hI : Img w b n I) (c : Int) (xk xn xc yk yn yc m : Int) (h0 : I o = .int .u8 xk) (h1 : I (o + 1) = .int .i64 xn) (h2 : I (o + 2) = .int .i64 xc) (p : Value) (ix : In64 xn) (iy : In64 yn)
    (ty : (yk == 110) = true) (h : ((xk == 110) = true ∧ (c == 1) = false ∧ m = P.does c xn yn) ∨ ((xk == 110) = false ∧ (xk == 0) = false ∧ c = 2 ∧ m = wrap64 (xn + yn)) ∨ ((xk == 110) = false ∧ (xk == 0) = false ∧ c = 3 ∧ m = wrap64 (xn - yn))) :
    Calls Tryd.prog 42 #[p, .int .i64 c, .pointer (some ⟨b, o, none⟩), .agg #[.int .u8 yk, .int .i64 yn, .int .i64 yc]] w fun e w' =>
      e = .returned (.int .i64 0) ∧ Below w.heap.size (w.setCell ⟨b, o + 1, none⟩ (.int .i64 m)) w' := by
  have HW0 := Lib.hid (Below.refl w.heap.size w)
  have c0 := (hI.cell o (by omega)).trans (congrArg some h0)
  have c1 := (hI.cell (o + 1) (by omega)).trans (congrArg some h1)
  have c2 := (hI.cell (o + 2) (by omega)).trans (congrArg some h2)
  have f1 := hI.free (o + 1) (by omega)
  have hlt := hI.lt (by omega)
  have IX := Lib.hid ix
  have IY := Lib.hid iy
  have t0 : (yk == 0) = false := by
    rw [beq_iff_eq] at ty; subst ty; rfl
  clear h0 h1 h2 hI ix iy
  rcases h with ⟨t1, t2, hm⟩ | ⟨t1, t2, rfl, hm⟩ | ⟨t1, t2, rfl, hm⟩
  · have HM := Lib.hid hm
    have tx : (xk == 0) = false := by
      rw [beq_iff_eq] at t1; subst t1; rfl
    have t2' : (c != 1) = true := by rw [bne_iff_ne]; exact beq_eq_false_iff_ne.1 t2
    clear hm
    go_enter Tryd.func42, Tryd.ntmps42
    go_wp2_with fail
    refine (RefDoes_any c xn yn IX.out IY.out _).mono ?_
    rw [← HM.out]
    rintro e w' ⟨rfl, rfl⟩
    go_wp2_with fail
    go_ret
    exact ⟨rfl, (by repeat' (first | with_reducible exact Below.refl _ _ | with_reducible refine Below.drew ?_ | with_reducible refine Below.alloc ?_ ?_ _ | (simp; done) | (simp; omega) | omega))⟩
  · have HM := Lib.hid hm
    clear hm
    go_enter Tryd.func42, Tryd.ntmps42
    go_wp2_with fail
    go_region
    all_goals
      go_wp2_with fail
      go_ret
      rw [HM.out]
      exact ⟨rfl, (by repeat' (first | with_reducible exact Below.refl _ _ | with_reducible refine Below.drew ?_ | with_reducible refine Below.alloc ?_ ?_ _ | (simp; done) | (simp; omega) | omega))⟩
  · have HM := Lib.hid hm
    clear hm
    go_enter Tryd.func42, Tryd.ntmps42
    go_wp2_with fail
    go_region
    all_goals
      go_wp2_with fail
      go_ret
      rw [HM.out]
      exact ⟨rfl, (by repeat' (first | with_reducible exact Below.refl _ _ | with_reducible refine Below.drew ?_ | with_reducible refine Below.alloc ?_ ?_ _ | (simp; done) | (simp; omega) | omega))⟩
end Go.Proofs.YtfpoicdfkjbknaaDoor.W
