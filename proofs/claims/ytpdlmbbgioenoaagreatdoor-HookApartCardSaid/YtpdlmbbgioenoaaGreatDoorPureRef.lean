/- A part of the proof; each theorem states its conditions. -/
import Derived.Test.YtpdlmbbgioenoaaGreatDoorPureOp
set_option linter.unusedSimpArgs false
set_option linter.unusedVariables false
namespace Go.Proofs.YtpdlmbbgioenoaaGreatDoor.P
open Go.RowKit (wrap64)
theorem fill_of {n : Int} {i : Nat} (h1 : n ≤ 2 ^ i - 1) (h2 : 1 ≤ i → 2 ^ (i - 1) - 1 < n) : fill n = 2 ^ i - 1 := by
  unfold fill
  by_cases h0 : n ≤ 0
  · rw [if_pos h0]
    have hi : i = 0 := by
      by_cases hi : i = 0
      · exact hi
      · have := h2 (by omega); have := pow_pos (i - 1); omega
    subst hi; rfl
  · rw [if_neg h0]
    obtain ⟨b1, b2, b3⟩ := bitLen_int (show 0 < n by omega)
    have hi : 1 ≤ i := by
      by_cases hi : i = 0
      · subst hi; simp at h1; omega
      · omega
    have h3 := h2 hi
    generalize bitLen n.toNat = m at *
    have mono : ∀ {a b : Nat}, a ≤ b → (2 : Int) ^ a ≤ 2 ^ b := fun {a b} hab => by
      have h := Nat.pow_le_pow_right (n := 2) (by decide) hab
      have e1 : ((2 ^ a : Nat) : Int) = (2 : Int) ^ a := by push_cast; rfl
      have e2 : ((2 ^ b : Nat) : Int) = (2 : Int) ^ b := by push_cast; rfl
      omega
    have : m = i := by
      rcases Nat.lt_trichotomy m i with hl | hl | hl
      · have := mono (show m ≤ i - 1 by omega); omega
      · exact hl
      · have := mono (show i ≤ m - 1 by omega); omega
    rw [this]
end Go.Proofs.YtpdlmbbgioenoaaGreatDoor.P
