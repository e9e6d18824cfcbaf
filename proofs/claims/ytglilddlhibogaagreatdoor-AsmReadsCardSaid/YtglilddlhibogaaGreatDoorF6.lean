/- strings.Split at one byte, and the reference's reading of a text, by contract. Conditions: the text is short; the tables that reading reads, and the reference's own, lie in the world. -/
import Derived.Test.YtglilddlhibogaaGreatDoorReadShelf
import Derived.Test.YtglilddlhibogaaGreatDoorF5
namespace Go.Proofs.YtglilddlhibogaaGreatDoor.W
open Go.RowKit Go.Proofs.YtglilddlhibogaaGreatDoor.P
set_option linter.unusedSimpArgs false
set_option linter.unusedVariables false

theorem split_bytes (s : List UInt8) (c : UInt8) : Lib.splitB (bs [c]) 0 (Lib.countB (bs s) (bs [c])) (bs s) = (cut1 c s).map bs := by
 have h1 := Lib.splitB_data (bs [c]) 0 (Lib.countB (bs s) (bs [c])) (bs s)
 rw [bs_data, bs_data] at h1
 have h2 : Lib.splitK [c] 0 (Lib.countB (bs s) (bs [c])) s = cut1 c s := by
  have := split_eq s c
  unfold Lib.split at this
  rw [← this]
  unfold Lib.countB
  rw [bs_data, bs_data]
 rw [h2] at h1
 rw [← h1, List.map_map]
 have h3 : (bs ∘ fun x : ByteArray => x.data.toList) = id := by funext x; exact Lib.mk_data x
 rw [h3, List.map_id]
theorem genSplit_one (s : List UInt8) (c : UInt8) (w : World) (hs : s.length ≤ 100000) : Calls Tryz.prog 56 #[.string (bs s), .string (bs [c]), .int .i64 0, .int .i64 (-1)] w fun e w' =>
  e = .returned (.slice (some ⟨w.heap.size, 0, none⟩) (cut1 c s).length (cut1 c s).length) ∧ w' = w.alloc (.cells (((cut1 c s).map bs).map Value.string).toArray 9) := by
 have hsz : (bs s).size = s.length := by simp [bs, ByteArray.size]
 have h1 : 1 ≤ (bs [c]).size := Nat.le_refl _
 have hlen := Lib.splitB_all (bs [c]) h1 0 _ (bs s) rfl
 have hcl : (cut1 c s).length = Lib.countB (bs s) (bs [c]) + 1 := by rw [← hlen, split_bytes, List.length_map]
 have hle := Lib.countB_le (bs [c]) h1 (bs s).size (bs s) (Nat.le_refl _)
 have K := Any.strings_genSplit_core Tryz.lays221 (by kernel_rfl) (bs s) (bs [c]) 0 (-1) (Lib.countB (bs s) (bs [c]) + 1) w (by omega) h1 (Nat.zero_le _)
  (fun x cs hx => (Tryz.strings_Index_one x c _).mono fun e w' ⟨he, hw⟩ => ⟨by
   rw [he]
   have : Lib.indexB x (bs [c]) = Lib.indexByte x.data.toList c := by unfold Lib.indexB; rw [bs_data]; exact index_byte c _
   rw [this], hw⟩)
  ((Tryz.strings_Count_one (bs s) c w).mono fun e w' ⟨he, hw⟩ => ⟨by
   rw [he]
   have : Lib.countB (bs s) (bs [c]) = (bs s).data.toList.count c := by unfold Lib.countB; rw [bs_data, bs_data]; exact Lib.count_one c s
   rw [this]; rfl, hw⟩)
  (by decide) (by decide) (by rw [if_pos (by decide)]; omega)
 rw [Nat.add_sub_cancel, hlen] at K
 have e2 : Lib.cellsOf (Lib.splitB (bs [c]) 0 (Lib.countB (bs s) (bs [c])) (bs s)) (Lib.countB (bs s) (bs [c]) + 1) = (((cut1 c s).map bs).map Value.string).toArray := by rw [← hlen, Lib.cellsOf_full, split_bytes]
 rw [e2, ← hcl] at K
 exact K
theorem split_one : SplitOne := by
 intro s c w hs
 go_enter Tryz.func33, Tryz.ntmps33
 go_wp2_with fail
 refine (genSplit_one s c w hs).mono ?_
 rintro e w1 ⟨rfl, hw⟩
 have HW := Lib.hid hw
 clear hw
 go_wp2_with fail
 go_ret
 have hw := HW.out
 have hn := heap_alloc_new w (.cells (((cut1 c s).map bs).map Value.string).toArray 9 (0, 0))
 refine ⟨rfl, fun j y hj => ?_, ?_, ?_⟩
 ·rw [hw]
  refine (cell_of_row _ w.heap.size j _ _ (0, 0) hn).trans ?_
  simp [hj]
 ·rw [hw]; simp
 ·rw [hw]; exact (Below.refl _ _).alloc (Nat.le_refl _) _
theorem FRead_any (s : List UInt8) (hs : s.length ≤ 90000) (w : World) (h : RTabs w) (hf : FTabs w) : Calls Tryz.prog 14 #[.string (bs s)] w (FReadIs (rread s) w) := FRead_of split_one s hs w h hf
end Go.Proofs.YtglilddlhibogaaGreatDoor.W
