/- Two tables with the same words are equal. No conditions. -/
import Derived.Test.YtfpoicdfkjbknaaDoorT6
namespace Go.Proofs.YtfpoicdfkjbknaaDoor.W
open Go.RowKit
set_option linter.unusedSimpArgs false
set_option linter.unusedVariables false

theorem equal_row (d : Nat) (a b c e : Int) (w : World) : (Op.equalIn (d + 2) 24 (.agg #[.int .i64 a, .int .i64 b, .int .i64 c, .int .i64 e]) (.agg #[.int .i64 a, .int .i64 b, .int .i64 c, .int .i64 e])).run Tryd.prog w = .ok true w := by
  have h1 : ∀ w, (sizeOf 2).run Tryd.prog w = .ok 1 w := fun w => by kernel_rfl
  have h2 : ∀ w, (isAgg 2).run Tryd.prog w = .ok false w := fun w => by kernel_rfl
  have h3 : ∀ (x : Int) (w : World), (Op.equalIn (d + 1) 2 (.int .i64 x) (.int .i64 x)).run Tryd.prog w = .ok true w := fun x w => by
    rw [run_equalIn_int (P := Tryd.prog) w d 2 .i64 .i64 x x Tryd.underlying2]; simp
  simp only [Op.equalIn, Sem.run_bind, run_underlying Tryd.underlying24, Result.andThen_ok, h1]
  simp [Std.Legacy.Range.forIn_eq_forIn_range', List.range', part, Sem.run_bind, h1, h2, h3, Result.andThen_ok]
set_option maxRecDepth 10000 in
theorem equal_table_d (d : Nat) (c0 c1 c2 c3 c4 c5 c6 c7 c8 c9 c10 c11 c12 c13 c14 c15 : Int) (w : World) : (Op.equalIn (d + 3) 26 (.agg #[.int .i64 c0, .int .i64 c1, .int .i64 c2, .int .i64 c3, .int .i64 c4, .int .i64 c5, .int .i64 c6, .int .i64 c7, .int .i64 c8, .int .i64 c9, .int .i64 c10, .int .i64 c11, .int .i64 c12, .int .i64 c13, .int .i64 c14, .int .i64 c15]) (.agg #[.int .i64 c0, .int .i64 c1, .int .i64 c2, .int .i64 c3, .int .i64 c4, .int .i64 c5, .int .i64 c6, .int .i64 c7, .int .i64 c8, .int .i64 c9, .int .i64 c10, .int .i64 c11, .int .i64 c12, .int .i64 c13, .int .i64 c14, .int .i64 c15])).run Tryd.prog w = .ok true w := by
  have h1 : ∀ w, (sizeOf 24).run Tryd.prog w = .ok 4 w := fun w => by kernel_rfl
  have h2 : ∀ w, (isAgg 24).run Tryd.prog w = .ok true w := fun w => by kernel_rfl
  have h3 := fun (a b c e : Int) (w : World) => equal_row d a b c e w
  unfold Op.equalIn
  simp only [Sem.run_bind, run_underlying Tryd.underlying26, Result.andThen_ok, h1]
  simp [Std.Legacy.Range.forIn_eq_forIn_range', List.range', part, Sem.run_bind, h1, h2, h3, Result.andThen_ok]
theorem equal_table (c0 c1 c2 c3 c4 c5 c6 c7 c8 c9 c10 c11 c12 c13 c14 c15 : Int) (w : World) : (Op.equalIn 10000 26 (.agg #[.int .i64 c0, .int .i64 c1, .int .i64 c2, .int .i64 c3, .int .i64 c4, .int .i64 c5, .int .i64 c6, .int .i64 c7, .int .i64 c8, .int .i64 c9, .int .i64 c10, .int .i64 c11, .int .i64 c12, .int .i64 c13, .int .i64 c14, .int .i64 c15]) (.agg #[.int .i64 c0, .int .i64 c1, .int .i64 c2, .int .i64 c3, .int .i64 c4, .int .i64 c5, .int .i64 c6, .int .i64 c7, .int .i64 c8, .int .i64 c9, .int .i64 c10, .int .i64 c11, .int .i64 c12, .int .i64 c13, .int .i64 c14, .int .i64 c15])).run Tryd.prog w = .ok true w := equal_table_d 9997 c0 c1 c2 c3 c4 c5 c6 c7 c8 c9 c10 c11 c12 c13 c14 c15 w
end Go.Proofs.YtfpoicdfkjbknaaDoor.W
