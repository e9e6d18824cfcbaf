/- AsmBack: the walk of the law: a program's text is read as that program again. Conditions: the program's cells are known, its numbers are int64's; the tables that reading and writing read lie in the world; errors.errorType holds the type error's handle. -/
import Derived.Test.YtpdlmbbgioenoaaGreatDoorN8
import Derived.Test.YtpdlmbbgioenoaaGreatDoorA3
import Derived.Test.YtpdlmbbgioenoaaGreatDoorSame
import Derived.Test.YtpdlmbbgioenoaaGreatDoorPureConst
import Derived.Deep.CutBlock
import Derived.Deep.DeepCutAuto
import Derived.Deep.Light
namespace Go.Proofs.YtpdlmbbgioenoaaGreatDoor.W
open Go.RowKit Go.Proofs.YtpdlmbbgioenoaaGreatDoor.P
set_option linter.unusedSimpArgs false
set_option linter.unusedVariables false

theorem Tabs.rlater {w w' : World} (h : Tabs w) (hb : Below w.heap.size w w') : Tabs w' := h.later hb
theorem check_zero {S : Nat → Step} {n : Nat} (h : (check S n).1 = 0) : check S n = (0, -1) := by
 unfold check at h ⊢
 by_cases hn : n < 1 ∨ 200 < n
 ·rw [if_pos hn] at h; cases h
 ·rw [if_neg hn] at h ⊢; exact afrom_zero n 0 h
theorem row_some {w : World} {base : Nat} {L : List Step} {v : Value} (h : w.ownsRow base 81 6 v L.length (rowOf L)) : ∃ og cap, v = .slice og L.length cap ∧ L.length ≤ cap ∧ (0 < L.length → ∃ a, og = some a ∧ Cells w a (nth L) L.length) := by
 have hr := h
 rcases h.2 with ⟨rfl, h0⟩ | ⟨g, cap, cur, rfl, _, _, hc, _⟩
 ·exact ⟨none, 0, by rw [h0], by omega, fun h => by omega⟩
 ·exact ⟨_, cap, rfl, hc, fun _ => ⟨_, rfl, row_cells rfl hr⟩⟩
set_option maxRecDepth 100000 in
set_option maxHeartbeats 4000000 in
theorem NWritten (w : World) (h : RTabs w) (ht : Tabs w) (hg : ErrT w) : Calls Tryz.prog 23 #[] w fun e w' => e = .returned (.bool true) ∧ Below w.heap.size w w' := by
 have H := Lib.hid h
 have HT := Lib.hid ht
 have HG := Lib.hid hg
 clear h ht hg
 go_enter Tryz.func23, Tryz.ntmps23
 go_wp2_with fail
 refine (NRead_any tWritten (by decide) _ H.out HG.out).mono ?_
 rintro e w1 ⟨v, er, rfl, he, hrow, hb⟩
 rw [rread_written] at he hrow
 obtain rfl := rerr_nil he
 have hrow' : w1.ownsRow w.heap.size 81 6 v (3 + 1) (rowOf pWritten) := hrow
 obtain ⟨g, cap, rfl⟩ := ownsRow_succ hrow'
 have k1 : w1.cell? ⟨g, 10, none⟩ = some (.int .i64 1) := row_at (i := 1) (j := 4) rfl hrow' (by decide) (by decide) rfl
 have k2 : w1.cell? ⟨g, 17, none⟩ = some (.int .i64 (-3)) := row_at (i := 2) (j := 5) rfl hrow' (by decide) (by decide) rfl
 have hcs := row_cells rfl hrow'
 have hcp : 4 ≤ cap := by
  rcases hrow'.2 with ⟨h, _⟩ | ⟨g', cap', cur, h, _, _, hc, _⟩
  ·cases h
  ·injection h with h1 h2 h3; omega
 have HB := Lib.hid hb
 have HCS := Lib.hid hcs
 clear he hrow hrow' hb hcs
 go_wp2_with fail
 refine (AWrite_full (some ⟨g, 0, none⟩) 4 cap (nth pWritten) hcp _ (fun _ => ⟨_, rfl, HCS.out⟩) (fun j hj => ?_) (HT.out.later HB.out) (HG.out.later HB.out)).mono ?_
 ·have := ok_written (nth pWritten j) (by
   unfold nth; rw [List.getD_eq_getElem?_getD, List.getElem?_eq_getElem (show j < pWritten.length from hj)]; exact List.getElem_mem _)
  exact ⟨this.2.1, this.2.2⟩
 rintro e w2 ⟨v2, rfl, he2, hb2⟩
 have hres : writeRes (nth pWritten) 4 = ((0, -1), tWritten2) := by
  unfold writeRes
  rw [show check (nth pWritten) 4 = (0, -1) by decide, if_neg (by simp), text_written]
 rw [hres] at he2 ⊢
 obtain rfl := rerr_nil he2
 have HB2 := Lib.hid (HB.out.trans (hb2.mono HB.out.size))
 clear hres he2 hb2
 rw [show bs tWritten2 = { data := #[108, 111, 97, 100, 32, 114, 48, 32, 91, 114, 49, 43, 50, 93, 59, 32, 106, 101, 113, 32, 114, 48, 32, 55, 32, 49, 59, 32, 109, 111, 118, 32, 114, 48, 32, 45, 51, 59, 32, 101, 120, 105, 116] } from rfl]
 go_wp2_with fail
 go_ret
 exact ⟨rfl, HB2.out⟩
theorem asmBack_big (oa : Option Addr) (n cap : Nat) (s : List UInt8) (h : 300 < n ∨ 1500 < s.length) (w : World) : Calls Tryz.prog 5 #[.slice oa n cap, .string (bs s)] w fun e w' => e = .returned (.bool true) ∧ Below w.heap.size w w' := by
 have hsz : ((bs s).size : Int) = s.length := by simp [bs, ByteArray.size]
 by_cases h3 : 300 < (n : Int)
 ·go_enter Tryz.func5, Tryz.ntmps5
  go_wp2_with fail
  go_ret
  exact ⟨rfl, Below.refl _ _⟩
 ·have h4 : 1500 < (s.length : Int) := by omega
  go_enter Tryz.func5, Tryz.ntmps5
  go_wp2_with fail
  go_ret
  exact ⟨rfl, Below.refl _ _⟩
theorem prog_len {S : Nat → Step} {n : Nat} (hn : n ≤ 200) (h : ∀ j, j < n → In64 (S j).dst ∧ In64 (S j).src ∧ In64 (S j).off ∧ In64 (S j).num) : (progText S n).length ≤ 100000 := by
 unfold progText
 have h1 := join_length [59, 32] 200 (texts S n) (fun x hx => by
  unfold texts at hx
  obtain ⟨i, hi, rfl⟩ := List.mem_map.1 hx
  obtain ⟨a, b, c, d⟩ := h i (List.mem_range.1 hi)
  exact stepText_length _ a b c d)
 rw [texts_length] at h1
 have : n * (([59, 32] : List UInt8).length + 200) ≤ 200 * 202 := Nat.mul_le_mul hn (by decide)
 omega
theorem read_shape (s : List UInt8) : (∃ L, rread s = ((0, -1), L) ∧ check (nth L) L.length = (0, -1) ∧ (1 ≤ L.length ∧ L.length ≤ 200) ∧ ∀ j, j < L.length → In64 (nth L j).dst ∧ In64 (nth L j).src ∧ In64 (nth L j).off ∧ In64 (nth L j).num) ∨ (rread s).1.1 ≠ 0 := by
 rcases rread_cases s with ⟨k, _, h⟩ | ⟨L, hL, ⟨hc, h⟩ | ⟨hc, h⟩⟩
 ·right; rw [h]; simp
 ·right; rw [h]; exact hc
 ·left
  refine ⟨L, h, check_zero hc, (check_wrong (check_zero hc)).1, fun j hj => ?_⟩
  have hin := rread_in (s := s) (nth L j) (by
   rw [h]; unfold nth; rw [List.getD_eq_getElem?_getD, List.getElem?_eq_getElem hj]; exact List.getElem_mem _)
  exact hin.2
set_option maxRecDepth 100000 in
set_option maxHeartbeats 16000000 in
theorem asmBack_walk (oa : Option Addr) (n cap : Nat) (S : Nat → Step) (hcap : n ≤ cap) (h : ¬ 300 < n) (s : List UInt8) (hs : ¬ 1500 < s.length) (w : World) (hsl : 0 < n → ∃ a, oa = some a ∧ Cells w a S n) (hin : ∀ j, j < n → In64 (S j).dst ∧ In64 (S j).src ∧ In64 (S j).off ∧ In64 (S j).num) (h : RTabs w) (ht : Tabs w) (hg : ErrT w) :
  Calls Tryz.prog 5 #[.slice oa n cap, .string (bs s)] w fun e w' => e = .returned (.bool true) ∧ Below w.heap.size w w' := by
 have hsz : ((bs s).size : Int) = s.length := by simp [bs, ByteArray.size]
 have h3 : ¬ 300 < (n : Int) := by omega
 have h4 : ¬ 1500 < (s.length : Int) := by omega
 have H := Lib.hid h
 have HT := Lib.hid ht
 have HG := Lib.hid hg
 have HSL := Lib.hid hsl
 have HIN := Lib.hid hin
 clear h ht hg hsl hin
 go_enter Tryz.func5, Tryz.ntmps5
 go_wp2_with fail
 refine (NWritten _ H.out HT.out HG.out).mono ?_
 rintro e w1 ⟨rfl, hb⟩
 have HB1 := Lib.hid hb
 clear hb
 go_wp2_with fail
 refine (AWrite_full oa n cap S hcap _ (fun hn => by obtain ⟨a, ha, hc⟩ := HSL.out hn; exact ⟨a, ha, hc.later HB1.out⟩) (fun j hj => (HIN.out j hj).2.2) (HT.out.later HB1.out) (HG.out.later HB1.out)).mono ?_
 rintro e w2 ⟨v2, rfl, he2, hb2⟩
 have HB2 := Lib.hid (HB1.out.trans (hb2.mono HB1.out.size))
 clear hb2
 by_cases hc : (check S n).1 = 0
 ·have hw : writeRes S n = ((0, -1), progText S n) := by unfold writeRes; rw [if_neg (by simp [hc])]
  rw [hw] at he2 ⊢
  obtain rfl := rerr_nil he2
  have hn := (check_wrong (check_zero hc)).1
  have hrd := rread_text (check_zero hc) (fun i hi => (HIN.out i hi).2.2)
  have hlen := prog_len (S := S) hn.2 HIN.out
  have HRD := Lib.hid hrd
  have HC := Lib.hid hc
  clear he2 hw hrd hc
  go_wp2_with fail
  refine (NRead_any (progText S n) hlen _ (H.out.later HB2.out) (HG.out.later HB2.out)).mono ?_
  rintro e w3 ⟨v3, er3, rfl, he3, hrow3, hb3⟩
  rw [HRD.out] at he3 hrow3
  obtain rfl := rerr_nil he3
  obtain ⟨og, cap3, rfl, hcp3, hcs3⟩ := row_some hrow3
  have HB3 := Lib.hid (HB2.out.trans (hb3.mono HB2.out.size))
  have hfl : (first S n).length = n := first_length S n
  simp only [hfl] at hcp3 hcs3 ⊢
  have HCS := Lib.hid hcs3
  clear he3 hrow3 hb3 hcs3 hfl
  go_wp2_with fail
  refine (KSame_yes og oa n cap3 cap S _ (fun h0 => ?_) (fun h0 => ?_) hcp3 hcap (by omega)).mono ?_
  ·obtain ⟨a, ha, hcx⟩ := HCS.out h0
   exact ⟨a, ha, fun i hi => by have := hcx i hi; rwa [nth_first S n i hi] at this⟩
  ·obtain ⟨a, ha, hcx⟩ := HSL.out h0
   exact ⟨a, ha, hcx.later HB3.out⟩
  rintro e w4 ⟨rfl, hb4⟩
  have HB4 := Lib.hid (HB3.out.trans (hb4.mono HB3.out.size))
  clear hb4
  go_wp2_with fail
  refine (NRead_any s (by omega) _ (H.out.later HB4.out) (HG.out.later HB4.out)).mono ?_
  rintro e w5 ⟨v5, er5, rfl, he5, hrow5, hb5⟩
  have HB5 := Lib.hid (HB4.out.trans (hb5.mono HB4.out.size))
  clear hb5
  rcases read_shape s with ⟨L, hL, hck, hn, hin5⟩ | hbad
  ·rw [hL] at he5 hrow5
   obtain rfl := rerr_nil he5
   obtain ⟨og5, cap5, rfl, hcp5, hcs5⟩ := row_some hrow5
   have HCS5 := Lib.hid hcs5
   have HIN5 := Lib.hid hin5
   have HL := Lib.hid hL
   have HCK := Lib.hid hck
   have HWR := Lib.hid (show writeRes (nth L) L.length = ((0, -1), progText (nth L) L.length) by unfold writeRes; rw [hck, if_neg (by simp)])
   have HRD5 := Lib.hid (rread_text hck (fun i hi => (hin5 i hi).2.2))
   have hlen5 := prog_len (S := nth L) hn.2 hin5
   clear he5 hrow5 hcs5 hin5 hL hck
   obtain ⟨m, hm⟩ : ∃ m, L.length = m := ⟨_, rfl⟩
   rw [hm] at hcp5 hn HCS5 HIN5 HCK HWR HRD5 hlen5 ⊢
   clear hm
   go_wp2_with fail
   refine (AWrite_full og5 m cap5 (nth L) hcp5 _ (fun h0 => HCS5.out h0) (fun j hj => (HIN5.out j hj).2.2) (HT.out.later HB5.out) (HG.out.later HB5.out)).mono ?_
   rintro e w6 ⟨v6, rfl, he6, hb6⟩
   rw [HWR.out] at he6 ⊢
   obtain rfl := rerr_nil he6
   have HCS6 := Lib.hid (show 0 < m → ∃ a, og5 = some a ∧ Cells w6 a (nth L) m from fun h0 => by obtain ⟨a, ha, hcx⟩ := HCS5.out h0; exact ⟨a, ha, hcx.later hb6⟩)
   have HB6 := Lib.hid (HB5.out.trans (hb6.mono HB5.out.size))
   clear he6 hb6
   go_wp2_with fail
   refine (NRead_any (progText (nth L) m) hlen5 _ (H.out.later HB6.out) (HG.out.later HB6.out)).mono ?_
   rintro e w7 ⟨v7, er7, rfl, he7, hrow7, hb7⟩
   rw [HRD5.out] at he7 hrow7
   obtain rfl := rerr_nil he7
   obtain ⟨og7, cap7, rfl, hcp7, hcs7⟩ := row_some hrow7
   have HB7 := Lib.hid (HB6.out.trans (hb7.mono HB6.out.size))
   have hfl : (first (nth L) m).length = m := first_length (nth L) m
   simp only [hfl] at hcp7 hcs7 ⊢
   have HCS7 := Lib.hid hcs7
   have HCS8 := Lib.hid (show 0 < m → ∃ a, og5 = some a ∧ Cells w7 a (nth L) m from fun h0 => by obtain ⟨a, ha, hcx⟩ := HCS6.out h0; exact ⟨a, ha, hcx.later hb7⟩)
   clear he7 hrow7 hb7 hcs7 hfl
   go_wp2_with fail
   refine (KSame_yes og7 og5 m cap7 cap5 (nth L) _ (fun h0 => ?_) (fun h0 => HCS8.out h0) hcp7 hcp5 (by omega)).mono ?_
   ·obtain ⟨a, ha, hcx⟩ := HCS7.out h0
    exact ⟨a, ha, fun i hi => by have := hcx i hi; rwa [nth_first (nth L) m i hi] at this⟩
   rintro e w8 ⟨rfl, hb8⟩
   have HB8 := Lib.hid (HB7.out.trans (hb8.mono HB7.out.size))
   clear hb8
   go_wp2_with fail
   go_ret
   exact ⟨rfl, HB8.out⟩
  ·obtain ⟨et5, ex5, rfl⟩ := rerr_iface he5 hbad
   clear he5 hrow5 hbad
   go_wp2_with fail
   go_ret
   exact ⟨rfl, HB5.out⟩
 ·obtain ⟨et, ex, rfl⟩ := rerr_iface (v := v2) he2 (by unfold writeRes; rw [if_pos hc]; exact hc)
  have HB4 := Lib.hid HB2.out
  clear he2 hc
  go_wp2_with fail
  refine (NRead_any s (by omega) _ (H.out.later HB4.out) (HG.out.later HB4.out)).mono ?_
  rintro e w5 ⟨v5, er5, rfl, he5, hrow5, hb5⟩
  have HB5 := Lib.hid (HB4.out.trans (hb5.mono HB4.out.size))
  clear hb5
  rcases read_shape s with ⟨L, hL, hck, hn, hin5⟩ | hbad
  ·rw [hL] at he5 hrow5
   obtain rfl := rerr_nil he5
   obtain ⟨og5, cap5, rfl, hcp5, hcs5⟩ := row_some hrow5
   have HCS5 := Lib.hid hcs5
   have HIN5 := Lib.hid hin5
   have HL := Lib.hid hL
   have HCK := Lib.hid hck
   have HWR := Lib.hid (show writeRes (nth L) L.length = ((0, -1), progText (nth L) L.length) by unfold writeRes; rw [hck, if_neg (by simp)])
   have HRD5 := Lib.hid (rread_text hck (fun i hi => (hin5 i hi).2.2))
   have hlen5 := prog_len (S := nth L) hn.2 hin5
   clear he5 hrow5 hcs5 hin5 hL hck
   obtain ⟨m, hm⟩ : ∃ m, L.length = m := ⟨_, rfl⟩
   rw [hm] at hcp5 hn HCS5 HIN5 HCK HWR HRD5 hlen5 ⊢
   clear hm
   go_wp2_with fail
   refine (AWrite_full og5 m cap5 (nth L) hcp5 _ (fun h0 => HCS5.out h0) (fun j hj => (HIN5.out j hj).2.2) (HT.out.later HB5.out) (HG.out.later HB5.out)).mono ?_
   rintro e w6 ⟨v6, rfl, he6, hb6⟩
   rw [HWR.out] at he6 ⊢
   obtain rfl := rerr_nil he6
   have HCS6 := Lib.hid (show 0 < m → ∃ a, og5 = some a ∧ Cells w6 a (nth L) m from fun h0 => by obtain ⟨a, ha, hcx⟩ := HCS5.out h0; exact ⟨a, ha, hcx.later hb6⟩)
   have HB6 := Lib.hid (HB5.out.trans (hb6.mono HB5.out.size))
   clear he6 hb6
   go_wp2_with fail
   refine (NRead_any (progText (nth L) m) hlen5 _ (H.out.later HB6.out) (HG.out.later HB6.out)).mono ?_
   rintro e w7 ⟨v7, er7, rfl, he7, hrow7, hb7⟩
   rw [HRD5.out] at he7 hrow7
   obtain rfl := rerr_nil he7
   obtain ⟨og7, cap7, rfl, hcp7, hcs7⟩ := row_some hrow7
   have HB7 := Lib.hid (HB6.out.trans (hb7.mono HB6.out.size))
   have hfl : (first (nth L) m).length = m := first_length (nth L) m
   simp only [hfl] at hcp7 hcs7 ⊢
   have HCS7 := Lib.hid hcs7
   have HCS8 := Lib.hid (show 0 < m → ∃ a, og5 = some a ∧ Cells w7 a (nth L) m from fun h0 => by obtain ⟨a, ha, hcx⟩ := HCS6.out h0; exact ⟨a, ha, hcx.later hb7⟩)
   clear he7 hrow7 hb7 hcs7 hfl
   go_wp2_with fail
   refine (KSame_yes og7 og5 m cap7 cap5 (nth L) _ (fun h0 => ?_) (fun h0 => HCS8.out h0) hcp7 hcp5 (by omega)).mono ?_
   ·obtain ⟨a, ha, hcx⟩ := HCS7.out h0
    exact ⟨a, ha, fun i hi => by have := hcx i hi; rwa [nth_first (nth L) m i hi] at this⟩
   rintro e w8 ⟨rfl, hb8⟩
   have HB8 := Lib.hid (HB7.out.trans (hb8.mono HB7.out.size))
   clear hb8
   go_wp2_with fail
   go_ret
   exact ⟨rfl, HB8.out⟩
  ·obtain ⟨et5, ex5, rfl⟩ := rerr_iface he5 hbad
   clear he5 hrow5 hbad
   go_wp2_with fail
   go_ret
   exact ⟨rfl, HB5.out⟩
end Go.Proofs.YtpdlmbbgioenoaaGreatDoor.W
