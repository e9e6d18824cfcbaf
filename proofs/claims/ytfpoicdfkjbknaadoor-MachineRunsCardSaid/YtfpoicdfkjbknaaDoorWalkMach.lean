/- The walks of package machine: far, counts. Conditions: the kinds are 0 to 4. -/
import Derived.Test.YtfpoicdfkjbknaaDoorWalkBound
import Derived.Test.YtfpoicdfkjbknaaDoorPureMach
namespace Go.Proofs.YtfpoicdfkjbknaaDoor.W
open Go.RowKit Go.Proofs.YtfpoicdfkjbknaaDoor.P
set_option linter.unusedSimpArgs false
set_option linter.unusedVariables false

set_option maxRecDepth 100000 in
set_option maxHeartbeats 4000000 in
theorem Far_any (v : Val) (o : Int) (hk : v.kind = 0 ∨ v.kind = 1 ∨ v.kind = 2 ∨ v.kind = 3 ∨ v.kind = 4) (w : World) :
    Calls Tryd.prog 46 #[.agg #[.int .i64 v.kind, .int .i64 v.n, .int .i64 v.cell], .int .i64 o] w fun e w' => e = .returned (.tuple #[.int .i64 (P.far v o).1, .int .i64 (P.far v o).2]) ∧ Below w.heap.size w w' := by
  have HW0 := Lib.hid (Below.refl w.heap.size w)
  obtain ⟨kind, n, cell⟩ := v
  simp only at hk
  unfold P.far low high
  simp only
  rcases hk with rfl | rfl | rfl | rfl | rfl
  all_goals
    simp only [show ¬ (1 : Int) = 0 by decide, show ¬ (2 : Int) = 0 by decide, show ¬ (3 : Int) = 0 by decide, show ¬ (4 : Int) = 0 by decide, show ¬ (2 : Int) = 1 by decide, show ¬ (3 : Int) = 1 by decide, show ¬ (4 : Int) = 1 by decide, show ¬ (2 : Int) = 3 by decide, show ¬ (4 : Int) = 3 by decide, show ¬ (2 : Int) = 4 by decide, show ¬ (3 : Int) = 4 by decide, if_true, if_false]
  all_goals
    (try generalize hw : wrap64 (n + o) = k)
    go_enter Tryd.func46, Tryd.ntmps46
    go_wp2_with fail
  all_goals
    go_ret2
    refine ⟨?_, (by repeat' (first | with_reducible exact HW0.out | with_reducible exact Below.refl _ _ | with_reducible refine Below.drew ?_ | with_reducible refine Below.drewN' ?_ _ | with_reducible refine Below.alloc ?_ ?_ _ | with_reducible refine Below.setCell ?_ ?_ _ | (simp; done) | (simp; omega) | omega))⟩
    first | rfl | (rw [if_pos (by omega)]) | (rw [if_neg (by omega)])

set_option maxRecDepth 100000 in
set_option maxHeartbeats 4000000 in
theorem Counts_any (c ka na ca kb nb cb : Int) (w : World) :
    Calls Tryd.prog 24 #[.int .i64 c, .agg #[.int .i64 ka, .int .i64 na, .int .i64 ca], .agg #[.int .i64 kb, .int .i64 nb, .int .i64 cb]] w fun e w' =>
      e = .returned (.tuple #[.agg #[.int .i64 (vcounts c ⟨ka, na, ca⟩ ⟨kb, nb, cb⟩).1.kind, .int .i64 (vcounts c ⟨ka, na, ca⟩ ⟨kb, nb, cb⟩).1.n, .int .i64 (vcounts c ⟨ka, na, ca⟩ ⟨kb, nb, cb⟩).1.cell], .int .i64 (vcounts c ⟨ka, na, ca⟩ ⟨kb, nb, cb⟩).2]) ∧ Below w.heap.size w w' := by
  have HW0 := Lib.hid (Below.refl w.heap.size w)
  unfold vcounts Val.none Val.num
  simp only
  by_cases b0 : kb = 0 <;> by_cases a0 : ka = 0 <;> by_cases c1 : c = 1 <;> by_cases a1 : ka = 1 <;> by_cases b1 : kb = 1 <;> by_cases c2 : c = 2 <;> by_cases c3 : c = 3
  all_goals (first | (exfalso; omega) | skip)
  all_goals
    simp only [b0, a0, c1, a1, b1, c2, c3, true_or, or_true, false_or, or_false, true_and, and_true, false_and, and_false, not_true, not_false_iff, if_true, if_false, ne_eq]
  all_goals (try subst b0); (try subst a0); (try subst c1); (try subst a1); (try subst b1); (try subst c2); (try subst c3)
  all_goals
    go_enter Tryd.func24, Tryd.ntmps24
    go_wp2_with (go_at_call 47; refine (Does_any _ _ _ _).mono ?_; rintro e w' ⟨rfl, rfl⟩)
  all_goals
    first
    | (exfalso; simp_all; done)
    | (refine bodyPost_ret ?_ rfl ⟨rfl, (by repeat' (first | with_reducible exact HW0.out | with_reducible exact Below.refl _ _ | with_reducible refine Below.drew ?_ | with_reducible refine Below.drewN' ?_ _ | with_reducible refine Below.alloc ?_ ?_ _ | with_reducible refine Below.setCell ?_ ?_ _ | (simp; done) | (simp; omega) | omega))⟩; simp [results, Tryd.results24, go_sem]; done)

end Go.Proofs.YtfpoicdfkjbknaaDoor.W
