/- A part of the proof; each theorem states its conditions. -/
import Derived.Test.YtpdlmbbgioenoaaGreatDoorN2
set_option linter.unusedSimpArgs false
set_option linter.unusedVariables false
namespace Go.Proofs.YtpdlmbbgioenoaaGreatDoor.W
open Go.RowKit Go.Proofs.YtpdlmbbgioenoaaGreatDoor.P
theorem npm_ascii : ∀ (j : Nat) (b : UInt8), ([43, 45] : List UInt8)[j]? = some b → b.toNat < 128 := by
 intro j b h
 rcases j with _ | _ | j
 ·simp at h; subst h; decide
 ·simp at h; subst h; decide
 ·simp at h
theorem NIdx_long (s : List UInt8) (h8 : 8 < s.length) (hs : s.length ≤ 100000) (w : World) : Calls Tryz.prog 139 #[.string (bs s), .string (bs [43, 45])] w fun e w' => e = .returned (.int .i64 (Lib.indexAny s [43, 45])) ∧ Below w.heap.size w w' := by
 have hz : (bs s).size = s.length := by simp [bs, ByteArray.size]
 have K := Tryz.strings_IndexAny_long (fun w => by kernel_rfl) (bs s) (bs [43, 45]) w (by simp [bs, ByteArray.size]) (by omega) (by omega) (by simp [bs, ByteArray.size]) (by rw [bs_data]; exact npm_ascii)
 rw [bs_data, bs_data] at K
 refine K.mono fun e w' ⟨he, hw⟩ => ⟨he, ?_⟩
 rw [hw]
 exact ((Below.refl _ _).alloc (Nat.le_refl _) _).alloc (by simp) _
end Go.Proofs.YtpdlmbbgioenoaaGreatDoor.W
