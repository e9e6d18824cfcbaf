/- What the walk of the reference's Mul needs: One to the letter, the products' least and greatest by rounds. No conditions. -/
import Derived.Test.YtfpoicdfkjbknaaDoorWalkRefB
import Derived.Test.YtfpoicdfkjbknaaDoorWalkBound5
import Derived.LoopN
import Derived.Deep.RegionWith
namespace Go.Proofs.YtfpoicdfkjbknaaDoor.W
open Go.RowKit Go.Proofs.YtfpoicdfkjbknaaDoor.P
set_option linter.unusedSimpArgs false
set_option linter.unusedVariables false

/-- the least and the greatest of the products behind so many rounds: the first one is looked at twice -/
def jlo (a b c d : Int) : Nat → Int | 0 => a | 1 => a | 2 => min a b | 3 => min a (min b c) | _ => min a (min b (min c d))
def jhi (a b c d : Int) : Nat → Int | 0 => a | 1 => a | 2 => max a b | 3 => max a (max b c) | _ => max a (max b (max c d))

theorem RefOne_exact (n : Int) (w : World) :
  Calls Tryd.prog 32 #[.int .i64 n] w fun e w' => e = .returned (.agg #[.int .i64 n, .int .i64 n]) ∧ w.alloc (.cells #[.int .i64 n, .int .i64 n] 49) = w' := by
 go_enter Tryd.func32, Tryd.ntmps32
 go_wp2_with fail
 exact bodyPost_ret (v := .agg #[.int .i64 n, .int .i64 n]) (by simp [results, Tryd.results32, go_sem]) rfl ⟨rfl, rfl⟩

end Go.Proofs.YtfpoicdfkjbknaaDoor.W
