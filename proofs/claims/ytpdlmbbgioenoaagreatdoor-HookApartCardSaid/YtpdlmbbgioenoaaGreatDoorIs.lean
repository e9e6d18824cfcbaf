/- A part of the proof; each theorem states its conditions. -/
import Derived.Test.YtpdlmbbgioenoaaGreatDoorWalkCheck
set_option linter.unusedSimpArgs false
set_option linter.unusedVariables false
namespace Go.Proofs.YtpdlmbbgioenoaaGreatDoor.W
open Go.RowKit Go.Proofs.YtpdlmbbgioenoaaGreatDoor.P
theorem ErrIs.later {w w' : World} {v : Value} {n p : Int} (h : ErrIs w v n p) (hb : Below w.heap.size w w') : ErrIs w' v n p := by
 rcases h with h | h | ⟨hne, b, hv, h0, h1⟩
 ·exact .inl h
 ·exact .inr (.inl h)
 ·have l := block_lt_of_cell h0
  exact .inr (.inr ⟨hne, b, hv, (hb.cell l).trans h0, (hb.cell (p := ⟨b, 1, none⟩) l).trans h1⟩)
end Go.Proofs.YtpdlmbbgioenoaaGreatDoor.W
