/- OpCounts: what op.Does, op.Is, op.Fill, op.Asks answer is what the reference answers, for every code and every two numbers. No conditions. -/
import Derived.Test.YtfmcapmaebfppaaWalkRef
import Derived.Deep.QuietTactic
import Derived.BigQuiet
import Derived.RowKit3
namespace Go.Proofs.Ytfmcapmaebfppaa.W
open Go.RowKit Go.Proofs.Ytfmcapmaebfppaa.P

theorem in64_wf {a : Int} (h : (Lit.int .i64 a).wf = true) : In64 a := by
  simp [Lit.wf, IntKind.min, IntKind.max, IntKind.signed, IntKind.bits] at h
  exact h

set_option maxHeartbeats 4000000 in
theorem opCounts_walk (c a b : Int) (w1 : (Lit.int .i64 a).wf = true) (w2 : (Lit.int .i64 b).wf = true) (w : World) :
    Calls Try.prog 4 #[.int .i64 c, .int .i64 a, .int .i64 b] w fun e w' => e = .returned (.bool true) ∧ Grown w w' := by
  have ia := Lib.hid (in64_wf w1)
  have ib := Lib.hid (in64_wf w2)
  clear w1 w2
  go_enter Try.func4, Try.ntmps4
  go_wp2_with (first | (go_at_call 7; refine (Does_any _ _ _ _).mono ?_; rintro e w' ⟨rfl, rfl⟩) | (go_at_call 10; refine (RefDoes_any _ _ _ ia.out ib.out _).mono ?_; rintro e w' ⟨rfl, rfl⟩) | (go_at_call 8; refine (Is_any _ _ _ _).mono ?_; rintro e w' ⟨rfl, rfl⟩) | (go_at_call 11; refine (RefIs_any _ _ _ _).mono ?_; rintro e w' ⟨rfl, rfl⟩) | (go_at_call 9; refine (Fill_any _ ia.out _).mono ?_; rintro e w' ⟨rfl, rfl⟩) | (go_at_call 12; refine (RefFill_any _ ia.out _).mono ?_; rintro e w' ⟨rfl, rfl⟩) | (go_at_call 13; refine (Asks_any _ _).mono ?_; rintro e w' ⟨rfl, rfl⟩) | (go_at_call 14; refine (RefAsks_any _ _).mono ?_; rintro e w' ⟨rfl, rfl⟩))
  go_ret
  exact ⟨rfl, Grown.refl _⟩
end Go.Proofs.Ytfmcapmaebfppaa.W
