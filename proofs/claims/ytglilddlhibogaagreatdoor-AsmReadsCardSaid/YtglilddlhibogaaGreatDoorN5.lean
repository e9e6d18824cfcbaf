/- strings.IndexAny at '+-': two of its three roads: texts of ASCII bytes, and texts longer than eight bytes. (The third, short texts with other bytes, is open.) No further conditions. -/
import Derived.Test.YtglilddlhibogaaGreatDoorN2
namespace Go.Proofs.YtglilddlhibogaaGreatDoor.W
open Go.RowKit Go.Proofs.YtglilddlhibogaaGreatDoor.P
set_option linter.unusedSimpArgs false
set_option linter.unusedVariables false

theorem npm_ascii : ∀ (j : Nat) (b : UInt8), ([43, 45] : List UInt8)[j]? = some b → b.toNat < 128 := by
 intro j b h
 rcases j with _ | _ | j
 ·simp at h; subst h; decide
 ·simp at h; subst h; decide
 ·simp at h
theorem NIdx_long (s : List UInt8) (h8 : 8 < s.length) (hs : s.length ≤ 100000) (w : World) : Calls Tryz.prog 99 #[.string (bs s), .string (bs [43, 45])] w fun e w' => e = .returned (.int .i64 (Lib.indexAny s [43, 45])) ∧ Below w.heap.size w w' := by
 have hz : (bs s).size = s.length := by simp [bs, ByteArray.size]
 have K := Tryz.strings_IndexAny_long (fun w => by kernel_rfl) (bs s) (bs [43, 45]) w (by simp [bs, ByteArray.size]) (by omega) (by omega) (by simp [bs, ByteArray.size]) (by rw [bs_data]; exact npm_ascii)
 rw [bs_data, bs_data] at K
 refine K.mono fun e w' ⟨he, hw⟩ => ⟨he, ?_⟩
 rw [hw]
 exact ((Below.refl _ _).alloc (Nat.le_refl _) _).alloc (by simp) _
theorem NIdx_ascii (s : List UInt8) (ha : ∀ (j : Nat) (b : UInt8), s[j]? = some b → b.toNat < 128) (hs : s.length ≤ 100000) (w : World) : Calls Tryz.prog 99 #[.string (bs s), .string (bs [43, 45])] w fun e w' => e = .returned (.int .i64 (Lib.indexAny s [43, 45])) ∧ Below w.heap.size w w' := by
 have hz : (bs s).size = s.length := by simp [bs, ByteArray.size]
 have K := Tryz.strings_IndexAny (fun w => by kernel_rfl) (bs s) (bs [43, 45]) w (by omega) (by simp [bs, ByteArray.size]) (by rw [bs_data]; exact ha) (by rw [bs_data]; exact npm_ascii)
 rw [bs_data, bs_data] at K
 exact K
end Go.Proofs.YtglilddlhibogaaGreatDoor.W
