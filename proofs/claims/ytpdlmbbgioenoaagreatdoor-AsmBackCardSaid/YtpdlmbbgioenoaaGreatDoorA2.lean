/- The text of a step: by contract. Conditions: nothing is wrong with the step; its numbers are int64's; the tables lie in the world. -/
import Derived.Test.YtpdlmbbgioenoaaGreatDoorA1
import Derived.Test.YtpdlmbbgioenoaaGreatDoorQuietTail
import Derived.Test.YtpdlmbbgioenoaaGreatDoorPureRun
import Derived.Deep.CutBlock
import Derived.Deep.DeepCutAuto
import Derived.Deep.Light
namespace Go.Proofs.YtpdlmbbgioenoaaGreatDoor.W
open Go.RowKit Go.Proofs.YtpdlmbbgioenoaaGreatDoor.P
set_option linter.unusedSimpArgs false
set_option linter.unusedVariables false
open Go.Sort (grow)

theorem abeq_no {a b : Int} (h : a ≠ b) : (a == b) = false := by rw [beq_eq_false_iff_ne]; exact h
theorem acall_num {c d s : Int} {r : Bool} {o n : Int} (h : ¬ bad c d s r o n) (hc : c = 27) : 1 ≤ n ∧ n ≤ 3 := by
 unfold bad at h; omega
def astepimg (c d sr : Int) (r : Bool) (o nn : Int) : Nat → Value := fun j => if j = 0 then .int .i64 c else if j = 1 then .int .i64 d else if j = 2 then .int .i64 sr else if j = 3 then .bool r else if j = 4 then .int .i64 o else .int .i64 nn
theorem acells {w : World} {b : Nat} {c d sr : Int} {r : Bool} {o nn : Int} (hI : P.Img w b 6 (astepimg c d sr r o nn)) : w.cell? ⟨b, 0, none⟩ = some (.int .i64 c) ∧ w.cell? ⟨b, 1, none⟩ = some (.int .i64 d) ∧ w.cell? ⟨b, 2, none⟩ = some (.int .i64 sr) ∧ w.cell? ⟨b, 3, none⟩ = some (.bool r) ∧ w.cell? ⟨b, 4, none⟩ = some (.int .i64 o) ∧ w.cell? ⟨b, 5, none⟩ = some (.int .i64 nn) :=
 ⟨hI.cell 0 (by omega), hI.cell 1 (by omega), hI.cell 2 (by omega), hI.cell 3 (by omega), hI.cell 4 (by omega), hI.cell 5 (by omega)⟩
theorem aimg_at {w : World} {b : Nat} {c d sr : Int} {r : Bool} {o nn : Int} {ty : TypeId} (h : w.heap[b]? = some (.cells #[.int .i64 c, .int .i64 d, .int .i64 sr, .bool r, .int .i64 o, .int .i64 nn] ty (0, 0))) : P.Img w b 6 (astepimg c d sr r o nn) := by
 refine Img.of_cells h (by rfl) fun j hj => ?_
 rcases j with _ | _ | _ | _ | _ | _ | j
 ·rfl
 ·rfl
 ·rfl
 ·rfl
 ·rfl
 ·rfl
 ·omega
theorem sec_mk (c d s : Int) (r : Bool) (o n : Int) : sec ⟨c, d, s, r, o, n⟩ = if r = true then rg s else num n := rfl
theorem sec_length {t : Step} (h1 : In64 t.src) (h2 : In64 t.num) : (sec t).length ≤ 21 := by
 unfold sec; split
 ·exact rg_length h1
 ·have := num_length h2; omega
theorem plc_length {r o : Int} (h1 : In64 r) (h2 : In64 o) : (plc r o).length ≤ 50 := by
 have e1 := rg_length h1; have e2 := num_length h2
 unfold plc; split <;> simp <;> omega

set_option maxRecDepth 100000 in
set_option maxHeartbeats 16000000 in
theorem AStep_any (t : Step) (ht : t.wrong = 0) (ho : In64 t.off) (hn : In64 t.num) (w : World) (h : Tabs w) : Calls Tryz.prog 58 #[.agg #[.int .i64 t.code, .int .i64 t.dst, .int .i64 t.src, .bool t.reg, .int .i64 t.off, .int .i64 t.num]] w fun e w' => e = .returned (.string (bs (stepText t))) ∧ Below w.heap.size w w' := by
 have HW0 := Lib.hid (Below.refl w.heap.size w)
 obtain ⟨c, d, sr, r, o, nn⟩ := t
 obtain ⟨g1, g2, -, g4⟩ := wrong_ok ht
 simp only at g1 g2 g4 ho hn ⊢
 have hd : In64 d := by unfold In64; omega
 have hs : In64 sr := by unfold In64; omega
 obtain ⟨c, rfl⟩ := Int.eq_ofNat_of_zero_le (show 0 ≤ c by omega)
 have c29 : (c : Int) < 29 := by omega
 obtain ⟨T, hT⟩ : ∃ T, stepText ⟨c, d, sr, r, o, nn⟩ = T := ⟨_, rfl⟩
 obtain ⟨X, hX⟩ : ∃ X, (if r = true then rg sr else num nn) = X := ⟨_, rfl⟩
 have L1 := rg_length hd; have L2 := num_length ho; have L3 := plc_length hs ho; have L4 := plc_length hd ho
 have L5 : X.length ≤ 21 := hX ▸ sec_length (t := ⟨c, d, sr, r, o, nn⟩) hs hn
 have L6 := nm_length c
 rw [hT]
 have HT := Lib.hid hT
 have HX := Lib.hid hX
 have HTAB := Lib.hid h
 have HD := Lib.hid hd; have HS := Lib.hid hs; have HO := Lib.hid ho; have HN := Lib.hid hn; have HG := Lib.hid g4
 clear hT hX h hd hs ho hn g4 ht
 go_enter Tryz.func58, Tryz.ntmps58
 go_wp2_with fail
 refine (AFmt_any nn HN.out _ (HTAB.out.later (by repeat' (first | with_reducible (first | exact HW0.out | apply bR | apply bD | apply bN | apply bA | apply bS) | (simp; done) | (simp; omega) | omega)))).mono ?_
 rintro e w1 ⟨rfl, hb⟩
 have I1 := Lib.hid ((aimg_at (heap_alloc_new w _)).later hb (by simp))
 have HB1 := Lib.hid (show Below w.heap.size w w1 from Below.trans (by repeat' (first | with_reducible (first | exact HW0.out | apply bR | apply bD | apply bN | apply bA | apply bS) | (simp; done) | (simp; omega) | omega)) (hb.mono (by first | omega | simp <;> omega)))
 clear hb
 obtain ⟨f0, f1, f2, f3, f4, f5⟩ := acells I1.out
 go_upto_if 9 with fail
 go_cut [3] (fun p wx => p = .string (bs X) ∧ P.Img wx w.heap.size 6 (astepimg c d sr r o nn) ∧ Below w.heap.size w wx)
 case first =>
  as_aux_lemma =>
   cases r with
   | false =>
    go_wp2_with fail
    go_meet
    go_light
    exact ⟨by rw [← HX.out]; rfl, I1.out, HB1.out⟩
   | true =>
    go_wp2_with fail
    refine (AReg_any sr HS.out _ (HTAB.out.later HB1.out)).mono ?_
    rintro e w2 ⟨rfl, hb⟩
    have I2 := Lib.hid (I1.out.later hb (I1.out.lt (by omega)))
    have HB2 := Lib.hid (HB1.out.trans (hb.mono HB1.out.size))
    clear hb f0 f1 f2 f3 f4 f5
    go_wp2_with fail
    go_meet
    go_light
    exact ⟨by rw [← HX.out]; rfl, I2.out, HB2.out⟩
 case rest =>
  obtain ⟨rfl, hI, hB⟩ := hcut
  obtain ⟨w2, hw2⟩ : ∃ x, x = wc := ⟨_, rfl⟩; subst hw2
  have I2 := Lib.hid hI
  have HB2 := Lib.hid hB
  have HT2 := Lib.hid (HTAB.out.later hB)
  clear hI hB f0 f1 f2 f3 f4 f5 I1 HB1 HTAB
  obtain ⟨f0, f1, f2, f3, f4, f5⟩ := acells I2.out
  have n0 := HT2.out.names c (by omega) (by omega)
  have z2 : w.heap.size < w2.heap.size := I2.out.lt (by omega)
  have gz2 : 2 < w2.heap.size := block_lt_of_cell n0
  have hcl : c = 28 ∨ c = 27 ∨ c = 14 ∨ c = 13 ∨ c = 25 ∨ c = 26 ∨ (15 ≤ c ∧ c ≤ 24) ∨ c ≤ 12 := by omega
  rcases hcl with rfl | rfl | rfl | rfl | rfl | rfl | hc | hc
  ·as_aux_lemma =>
    have n0 := HT2.out.names 28 (by omega) (by omega)
    go_wp2_with fail
    go_ret
    refine ⟨?_, HB2.out⟩
    rw [← HT.out]
    first | rw [st_exit] | erw [st_exit]
    try simp
  ·as_aux_lemma =>
    have hnn : 1 ≤ nn ∧ nn ≤ 3 := acall_num HG.out rfl
    obtain ⟨m, rfl⟩ := Int.eq_ofNat_of_zero_le (show 0 ≤ nn by omega)
    have m4 : (m : Int) < 4 := by omega
    have L7 := cl_length m
    have n1 := HT2.out.calls m (by omega) (by omega)
    go_wp2_with (refine wpList_cat (by rfl) _ _ _ _ (by rfl) _ _ (by rfl) (by rfl) (by simp only [List.length_append, List.length_cons, List.length_nil]; omega) ?_)
    go_ret
    refine ⟨?_, HB2.out⟩
    rw [← HT.out]
    first | rw [st_call] | erw [st_call]
    try simp
  ·as_aux_lemma =>
    go_wp2_with (refine wpList_cat (by rfl) _ _ _ _ (by rfl) _ _ (by rfl) (by rfl) (by simp only [List.length_append, List.length_cons, List.length_nil]; omega) ?_)
    refine (AItoa_any o HO.out _ (HT2.out.later (Below.refl _ _))).mono ?_
    rintro e w3 ⟨rfl, hb⟩
    have B23 := Lib.hid (show Below w2.heap.size w2 w3 from hb)
    have I3 := Lib.hid (I2.out.later B23.out z2)
    clear hb f0 f1 f2 f3 f4 f5
    obtain ⟨f0, f1, f2, f3, f4, f5⟩ := acells I3.out
    go_wp2_with (refine wpList_cat (by rfl) _ _ _ _ (by rfl) _ _ (by rfl) (by rfl) (by simp only [List.length_append, List.length_cons, List.length_nil]; omega) ?_)
    go_ret
    refine ⟨?_, HB2.out.trans (B23.out.mono HB2.out.size)⟩
    rw [← HT.out]
    first | rw [st_jump] | erw [st_jump]
    try simp
  ·as_aux_lemma =>
    go_wp2_with (refine wpList_cat (by rfl) _ _ _ _ (by rfl) _ _ (by rfl) (by rfl) (by simp only [List.length_append, List.length_cons, List.length_nil]; omega) ?_)
    refine (AReg_any d HD.out _ (HT2.out.later (Below.refl _ _))).mono ?_
    rintro e w3 ⟨rfl, hb⟩
    have B23 := Lib.hid (show Below w2.heap.size w2 w3 from hb)
    have I3 := Lib.hid (I2.out.later B23.out z2)
    clear hb f0 f1 f2 f3 f4 f5
    obtain ⟨f0, f1, f2, f3, f4, f5⟩ := acells I3.out
    go_wp2_with (refine wpList_cat (by rfl) _ _ _ _ (by rfl) _ _ (by rfl) (by rfl) (by simp only [List.length_append, List.length_cons, List.length_nil]; omega) ?_)
    go_ret
    refine ⟨?_, HB2.out.trans (B23.out.mono HB2.out.size)⟩
    rw [← HT.out]
    first | rw [st_neg] | erw [st_neg]
    try simp
  ·as_aux_lemma =>
    go_upto_region 14 with fail
    have k0 := cell_regrown f0; have k1 := cell_regrown f1; have k2 := cell_regrown f2; have k3 := cell_regrown f3; have k4 := cell_regrown f4; have k5 := cell_regrown f5
    have C0 := Lib.hid (show ∀ dr os, Calls Tryz.prog 98 #[.int .i64 d] (grow (redrawn w2 dr) os) fun e w'' => e = .returned (.string (bs (rg d))) ∧ ∃ p : Regrown, w'' = grow (redrawn w2 p.d) p.os from fun dr os => Calls.regrown_of (AReg_any d HD.out _ (HT2.out.later (below_regrown w2 dr os))))
    have C1 := Lib.hid (show ∀ dr os, Calls Tryz.prog 100 #[.int .i64 sr, .int .i64 o] (grow (redrawn w2 dr) os) fun e w'' => e = .returned (.string (bs (plc sr o))) ∧ ∃ p : Regrown, w'' = grow (redrawn w2 p.d) p.os from fun dr os => Calls.regrown_of (APlace_any sr o HS.out HO.out _ (HT2.out.later (below_regrown w2 dr os))))
    refine wp_region_quiet_below (by kernel_rfl) (by kernel_rfl) ?_
    repeat (first | (refine wpQuiet_cat (by rfl) _ _ _ _ (by rfl) _ _ (by rfl) (by rfl) (by simp only [List.length_append, List.length_cons, List.length_nil]; omega) ?_) | quiet_step (first | exact C0.out _ _ | exact C1.out _ _))
    refine wpQuiet_nil ?_
    intro wq hwq
    have B2q := Lib.hid (show Below w2.heap.size w2 wq from by obtain ⟨p, hp⟩ := hwq; rw [hp]; exact below_regrown _ _ _)
    clear hwq
    go_wp2_with (refine wpList_cat (by rfl) _ _ _ _ (by rfl) _ _ (by rfl) (by rfl) (by simp only [List.length_append, List.length_cons, List.length_nil]; omega) ?_)
    go_ret
    refine ⟨?_, HB2.out.trans (B2q.out.mono HB2.out.size)⟩
    rw [← HT.out]
    first | rw [st_load] | erw [st_load]
    try simp
  ·as_aux_lemma =>
    go_wp2_with (refine wpList_cat (by rfl) _ _ _ _ (by rfl) _ _ (by rfl) (by rfl) (by simp only [List.length_append, List.length_cons, List.length_nil]; omega) ?_)
    refine (APlace_any d o HD.out HO.out _ (HT2.out.later (Below.refl _ _))).mono ?_
    rintro e w3 ⟨rfl, hb⟩
    have B23 := Lib.hid (show Below w2.heap.size w2 w3 from hb)
    have I3 := Lib.hid (I2.out.later B23.out z2)
    clear hb f0 f1 f2 f3 f4 f5
    obtain ⟨f0, f1, f2, f3, f4, f5⟩ := acells I3.out
    go_wp2_with (refine wpList_cat (by rfl) _ _ _ _ (by rfl) _ _ (by rfl) (by rfl) (by simp only [List.length_append, List.length_cons, List.length_nil]; omega) ?_)
    go_ret
    refine ⟨?_, HB2.out.trans (B23.out.mono HB2.out.size)⟩
    rw [← HT.out]
    first | rw [st_store] | erw [st_store]
    rw [sec_mk, HX.out]
    try simp
  ·as_aux_lemma =>
    have t28 := abeq_no (show (c : Int) ≠ 28 by omega); have t27 := abeq_no (show (c : Int) ≠ 27 by omega); have t14 := abeq_no (show (c : Int) ≠ 14 by omega); have t13 := abeq_no (show (c : Int) ≠ 13 by omega); have t25 := abeq_no (show (c : Int) ≠ 25 by omega); have t26 := abeq_no (show (c : Int) ≠ 26 by omega)
    go_upto_region 18 with (go_at_call 63; refine (Asks_any _ _).mono ?_; rintro e w' ⟨rfl, rfl⟩; rw [asks_of])
    have k0 := cell_regrown f0; have k1 := cell_regrown f1; have k2 := cell_regrown f2; have k3 := cell_regrown f3; have k4 := cell_regrown f4; have k5 := cell_regrown f5
    have C0 := Lib.hid (show ∀ dr os, Calls Tryz.prog 98 #[.int .i64 d] (grow (redrawn w2 dr) os) fun e w'' => e = .returned (.string (bs (rg d))) ∧ ∃ p : Regrown, w'' = grow (redrawn w2 p.d) p.os from fun dr os => Calls.regrown_of (AReg_any d HD.out _ (HT2.out.later (below_regrown w2 dr os))))
    have C1 := Lib.hid (show ∀ dr os, Calls Tryz.prog 99 #[.int .i64 o] (grow (redrawn w2 dr) os) fun e w'' => e = .returned (.string (bs (num o))) ∧ ∃ p : Regrown, w'' = grow (redrawn w2 p.d) p.os from fun dr os => Calls.regrown_of (AItoa_any o HO.out _ (HT2.out.later (below_regrown w2 dr os))))
    refine wp_region_quiet_below (by kernel_rfl) (by kernel_rfl) ?_
    repeat (first | (refine wpQuiet_cat (by rfl) _ _ _ _ (by rfl) _ _ (by rfl) (by rfl) (by simp only [List.length_append, List.length_cons, List.length_nil]; omega) ?_) | quiet_step (first | exact C0.out _ _ | exact C1.out _ _))
    refine wpQuiet_nil ?_
    intro wq hwq
    have B2q := Lib.hid (show Below w2.heap.size w2 wq from by obtain ⟨p, hp⟩ := hwq; rw [hp]; exact below_regrown _ _ _)
    clear hwq
    go_wp2_with (refine wpList_cat (by rfl) _ _ _ _ (by rfl) _ _ (by rfl) (by rfl) (by simp only [List.length_append, List.length_cons, List.length_nil]; omega) ?_)
    go_ret
    refine ⟨?_, HB2.out.trans (B2q.out.mono HB2.out.size)⟩
    rw [← HT.out]
    first | rw [st_ask (c := c) (by omega)] | erw [st_ask (c := c) (by omega)]
    rw [sec_mk, HX.out]
    try simp
  ·as_aux_lemma =>
    have t28 := abeq_no (show (c : Int) ≠ 28 by omega); have t27 := abeq_no (show (c : Int) ≠ 27 by omega); have t14 := abeq_no (show (c : Int) ≠ 14 by omega); have t13 := abeq_no (show (c : Int) ≠ 13 by omega); have t25 := abeq_no (show (c : Int) ≠ 25 by omega); have t26 := abeq_no (show (c : Int) ≠ 26 by omega)
    go_wp2_with (first | (refine wpList_cat (by rfl) _ _ _ _ (by rfl) _ _ (by rfl) (by rfl) (by simp only [List.length_append, List.length_cons, List.length_nil]; omega) ?_) | (go_at_call 63; refine (Asks_any _ _).mono ?_; rintro e w' ⟨rfl, rfl⟩; rw [asks_of]))
    refine (AReg_any d HD.out _ (HT2.out.later (Below.refl _ _))).mono ?_
    rintro e w3 ⟨rfl, hb⟩
    have B23 := Lib.hid (show Below w2.heap.size w2 w3 from hb)
    have I3 := Lib.hid (I2.out.later B23.out z2)
    clear hb f0 f1 f2 f3 f4 f5
    obtain ⟨f0, f1, f2, f3, f4, f5⟩ := acells I3.out
    go_wp2_with (refine wpList_cat (by rfl) _ _ _ _ (by rfl) _ _ (by rfl) (by rfl) (by simp only [List.length_append, List.length_cons, List.length_nil]; omega) ?_)
    go_ret
    refine ⟨?_, HB2.out.trans (B23.out.mono HB2.out.size)⟩
    rw [← HT.out]
    first | rw [st_make (c := c) (by omega)] | erw [st_make (c := c) (by omega)]
    rw [sec_mk, HX.out]
    try simp
end Go.Proofs.YtpdlmbbgioenoaaGreatDoor.W
