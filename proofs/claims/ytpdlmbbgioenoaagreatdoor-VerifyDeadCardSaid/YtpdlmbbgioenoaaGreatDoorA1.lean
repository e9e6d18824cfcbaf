/- Numbers, registers, places as text: by contract. Conditions: the numbers are int64's; the tables of names and of powers of ten lie in the world. -/
import Derived.Test.YtpdlmbbgioenoaaGreatDoorReadShelf
import Derived.Test.YtpdlmbbgioenoaaGreatDoorCat
import Derived.Test.YtpdlmbbgioenoaaGreatDoorWalkCheck
import Derived.Test.YtpdlmbbgioenoaaGreatDoorImg
import Derived.Lib.SmallJoins
import Derived.Lib.QuietBelow
namespace Go.Proofs.YtpdlmbbgioenoaaGreatDoor.W
open Go.RowKit Go.Proofs.YtpdlmbbgioenoaaGreatDoor.P
set_option linter.unusedSimpArgs false
set_option linter.unusedVariables false
open Go.Sort (grow)

/-- the tables that writing reads -/
structure Tabs (w : World) : Prop where
 pow : Lib.TabIs Tryz.prog w "internal/strconv.uint64pow10" .u64 Lib.pow10Tab
 names : ∀ k, 1 ≤ k → k < 29 → w.cell? ⟨2, k, none⟩ = some (.string (bs (nm k)))
 calls : ∀ k, 1 ≤ k → k < 4 → w.cell? ⟨3, k, none⟩ = some (.string (bs (cl k)))
theorem gPow : Tryz.prog.globalNamed "internal/strconv.uint64pow10" = some 9 := by kernel_rfl
theorem Tabs.later {w w' : World} (h : Tabs w) (hb : Below w.heap.size w w') : Tabs w' :=
 ⟨Joins.tab_stays gPow h.pow hb (Nat.le_refl _), fun k h1 h2 => (hb.cell (block_lt_of_cell (h.names k h1 h2))).trans (h.names k h1 h2), fun k h1 h2 => (hb.cell (block_lt_of_cell (h.calls k h1 h2))).trans (h.calls k h1 h2)⟩
theorem below_drewgrow (w : World) (k : Nat) (os : Array Obj) : Below w.heap.size w (grow (w.drewN k) os) := below_regrown w (w.drawn + k) os
theorem AFmt_any (n : Int) (hn : In64 n) (w : World) (h : Tabs w) : Calls Tryz.prog 97 #[.int .i64 n, .int .i64 10] w fun e w' => e = .returned (.string (bs (num n))) ∧ Below w.heap.size w w' :=
 (Tryz.strconv_FormatInt_10 n hn.1 hn.2 w h.pow).mono fun e w' ⟨he, k, os, hw⟩ => ⟨he, hw ▸ below_drewgrow w k os⟩
theorem AItoa_any (n : Int) (hn : In64 n) (w : World) (h : Tabs w) : Calls Tryz.prog 99 #[.int .i64 n] w fun e w' => e = .returned (.string (bs (num n))) ∧ Below w.heap.size w w' :=
 (Tryz.strconv_Itoa n hn.1 hn.2 w h.pow).mono fun e w' ⟨he, k, os, hw⟩ => ⟨he, hw ▸ below_drewgrow w k os⟩
theorem ANum_any (n : Int) (hn : In64 n) (w : World) (h : Tabs w) : Calls Tryz.prog 131 #[.int .i64 n] w fun e w' => e = .returned (.string (bs (num n))) ∧ Below w.heap.size w w' := by
 have H := Lib.hid h
 have HN := Lib.hid hn
 clear h hn
 go_enter Tryz.func131, Tryz.ntmps131
 go_wp2_with fail
 refine (AFmt_any n HN.out _ H.out).mono ?_
 rintro e w1 ⟨rfl, hb⟩
 have HB := Lib.hid hb
 clear hb
 go_wp2_with fail
 go_ret
 exact ⟨rfl, HB.out⟩
theorem AReg_any (n : Int) (hn : In64 n) (w : World) (h : Tabs w) : Calls Tryz.prog 98 #[.int .i64 n] w fun e w' => e = .returned (.string (bs (rg n))) ∧ Below w.heap.size w w' := by
 have H := Lib.hid h
 have HN := Lib.hid hn
 have L1 := num_length hn
 clear h hn
 go_enter Tryz.func98, Tryz.ntmps98
 go_wp2_with fail
 refine (AItoa_any n HN.out _ H.out).mono ?_
 rintro e w1 ⟨rfl, hb⟩
 have HB := Lib.hid hb
 clear hb
 go_wp2_with (refine wpList_cat (by rfl) _ _ _ _ (by rfl) _ _ (by rfl) (by rfl) (by simp only [List.length_append, List.length_cons, List.length_nil]; omega) ?_)
 go_ret
 exact ⟨rfl, HB.out⟩
theorem rg_length {n : Int} (h : In64 n) : (rg n).length ≤ 21 := by have := num_length h; unfold rg; simp; omega
set_option maxHeartbeats 2000000 in
theorem APlace_any (r o : Int) (hr : In64 r) (ho : In64 o) (w : World) (h : Tabs w) : Calls Tryz.prog 100 #[.int .i64 r, .int .i64 o] w fun e w' => e = .returned (.string (bs (plc r o))) ∧ Below w.heap.size w w' := by
 have H := Lib.hid h
 have HR := Lib.hid hr
 have HO := Lib.hid ho
 have L1 := num_length ho
 have L2 := rg_length hr
 clear h hr ho
 by_cases hn : o < 0
 ·have e1 : plc r o = [91] ++ rg r ++ num o ++ [93] := by unfold plc; rw [if_pos hn]; simp
  rw [e1]
  go_enter Tryz.func100, Tryz.ntmps100
  go_wp2_with fail
  refine (AReg_any r HR.out _ H.out).mono ?_
  rintro e w1 ⟨rfl, hb⟩
  have HB := Lib.hid hb
  clear hb
  go_wp2_with (refine wpList_cat (by rfl) _ _ _ _ (by rfl) _ _ (by rfl) (by rfl) (by simp only [List.length_append, List.length_cons, List.length_nil]; omega) ?_)
  refine (AItoa_any o HO.out _ (H.out.later HB.out)).mono ?_
  rintro e w2 ⟨rfl, hb⟩
  have HB2 := Lib.hid (HB.out.trans (hb.mono HB.out.size))
  clear hb
  go_wp2_with (refine wpList_cat (by rfl) _ _ _ _ (by rfl) _ _ (by rfl) (by rfl) (by simp only [List.length_append, List.length_cons, List.length_nil]; omega) ?_)
  go_ret
  exact ⟨by simp, HB2.out⟩
 ·have e1 : plc r o = [91] ++ rg r ++ [43] ++ num o ++ [93] := by unfold plc; rw [if_neg hn]
  rw [e1]
  go_enter Tryz.func100, Tryz.ntmps100
  go_wp2_with fail
  refine (AReg_any r HR.out _ H.out).mono ?_
  rintro e w1 ⟨rfl, hb⟩
  have HB := Lib.hid hb
  clear hb
  go_wp2_with (refine wpList_cat (by rfl) _ _ _ _ (by rfl) _ _ (by rfl) (by rfl) (by simp only [List.length_append, List.length_cons, List.length_nil]; omega) ?_)
  refine (AItoa_any o HO.out _ (H.out.later HB.out)).mono ?_
  rintro e w2 ⟨rfl, hb⟩
  have HB2 := Lib.hid (HB.out.trans (hb.mono HB.out.size))
  clear hb
  go_wp2_with (refine wpList_cat (by rfl) _ _ _ _ (by rfl) _ _ (by rfl) (by rfl) (by simp only [List.length_append, List.length_cons, List.length_nil]; omega) ?_)
  go_ret
  exact ⟨by simp, HB2.out⟩
end Go.Proofs.YtpdlmbbgioenoaaGreatDoor.W
