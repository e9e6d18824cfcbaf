/- AsmReads: the walk of the law: both readings of a text are the same. Conditions: the tables that reading reads, and the reference's own, lie in the world; errors.errorType holds the type error's handle. -/
import Derived.Test.YtglilddlhibogaaGreatDoorF6
import Derived.Test.YtglilddlhibogaaGreatDoorN8
import Derived.Test.YtglilddlhibogaaGreatDoorSameL
import Derived.Test.YtglilddlhibogaaGreatDoorIs
namespace Go.Proofs.YtglilddlhibogaaGreatDoor.W
open Go.RowKit Go.Proofs.YtglilddlhibogaaGreatDoor.P
set_option linter.unusedSimpArgs false
set_option linter.unusedVariables false

theorem row_some {w : World} {base : Nat} {L : List Step} {v : Value} (h : w.ownsRow base 110 6 v L.length (rowOf L)) : ∃ og cap, v = .slice og L.length cap ∧ L.length ≤ cap ∧ (0 < L.length → ∃ a, og = some a ∧ Cells w a (nth L) L.length) := by
 have hr := h
 rcases h.2 with ⟨rfl, h0⟩ | ⟨g, cap, cur, rfl, _, _, hc, _⟩
 ·exact ⟨none, 0, by rw [h0], by omega, fun h => by omega⟩
 ·exact ⟨_, cap, rfl, hc, fun _ => ⟨_, rfl, row_cells rfl hr⟩⟩
theorem rread_small (s : List UInt8) (hs : s.length ≤ 1500) : (rread s).2.length ≤ 100000 := by
 unfold rread
 cases h : rgo [] (cut1 59 s) with
 | error k => simp
 | ok L =>
  have h1 := rgo_len _ _ _ h
  have h2 := cut1_length 59 s
  have h3 := List.count_le_length (a := (59 : UInt8)) (l := s)
  simp at h1
  simp only
  split <;> simp <;> omega
theorem asmReads_big (s : List UInt8) (h : 1500 < s.length) (w : World) : Calls Tryz.prog 4 #[.string (bs s)] w fun e w' => e = .returned (.bool true) ∧ Below w.heap.size w w' := by
 have hsz : ((bs s).size : Int) = s.length := by simp [bs, ByteArray.size]
 have h4 : 1500 < (s.length : Int) := by omega
 go_enter Tryz.func4, Tryz.ntmps4
 go_wp2_with fail
 go_ret
 exact ⟨rfl, Below.refl _ _⟩
set_option maxRecDepth 100000 in
set_option maxHeartbeats 4000000 in
theorem asmReads_walk (s : List UInt8) (hs : ¬ 1500 < s.length) (w : World) (h : RTabs w) (hf : FTabs w) (hg : ErrT w) : Calls Tryz.prog 4 #[.string (bs s)] w fun e w' => e = .returned (.bool true) ∧ Below w.heap.size w w' := by
 have hsz : ((bs s).size : Int) = s.length := by simp [bs, ByteArray.size]
 have h4 : ¬ 1500 < (s.length : Int) := by omega
 have h5 := rread_small s (by omega)
 have H := Lib.hid h
 have HF := Lib.hid hf
 have HG := Lib.hid hg
 clear h hf hg
 have C1 := Lib.hid fun w (h : RTabs w) (hf : FTabs w) => FRead_any s (by omega) w h hf
 have C2 := Lib.hid fun w (h : RTabs w) (hg : ErrT w) => NRead_any s (by omega) w h hg
 obtain ⟨R, hR⟩ : ∃ R, rread s = R := ⟨_, rfl⟩
 rw [hR] at C1 C2 h5
 clear hR
 obtain ⟨⟨n, p⟩, L⟩ := R
 simp only at h5
 go_enter Tryz.func4, Tryz.ntmps4
 go_wp2_with fail
 refine (C1.out _ H.out HF.out).mono ?_
 rintro e w1 ⟨v1, rfl, hrow1, hb1⟩
 obtain ⟨og, cap, rfl, hcp, hcs⟩ := row_some hrow1
 have HB1 := Lib.hid hb1
 have HC1 := Lib.hid hcs
 clear hrow1 hb1 hcs
 go_wp2_with fail
 generalize hW : World.alloc w1 _ = w5
 have hb5 : Below w1.heap.size w1 w5 := hW ▸ ((Below.refl w1.heap.size w1).alloc (Nat.le_refl _) _)
 have q0 : w5.cell? ⟨w1.heap.size, 0, none⟩ = some (.int .i64 n) := by rw [← hW]; simp [go_sem]
 have q1 : w5.cell? ⟨w1.heap.size, 1, none⟩ = some (.int .i64 p) := by rw [← hW]; simp [go_sem]
 have hz5 : w1.heap.size < w5.heap.size := by rw [← hW]; simp
 have HB5 := Lib.hid (HB1.out.trans (hb5.mono HB1.out.size))
 have HC5 := Lib.hid (show 0 < L.length → ∃ a, og = some a ∧ Cells w5 a (nth L) L.length from fun h0 => by obtain ⟨a, ha, hc⟩ := HC1.out h0; exact ⟨a, ha, hc.later hb5⟩)
 clear hW hb5 HC1
 refine (C2.out _ (H.out.later HB5.out) (HG.out.later HB5.out)).mono ?_
 rintro e w2 ⟨v2, er, rfl, he, hrow2, hb2⟩
 obtain ⟨og2, cap2, rfl, hcp2, hcs2⟩ := row_some hrow2
 have r0 := (hb2.cell (p := ⟨w1.heap.size, 0, none⟩) hz5).trans q0
 have r1 := (hb2.cell (p := ⟨w1.heap.size, 1, none⟩) hz5).trans q1
 have HE := Lib.hid he
 have HC2 := Lib.hid hcs2
 have HC1 := Lib.hid (show 0 < L.length → ∃ a, og = some a ∧ Cells w2 a (nth L) L.length from fun h0 => by obtain ⟨a, ha, hc⟩ := HC5.out h0; exact ⟨a, ha, hc.later hb2⟩)
 have HB2 := Lib.hid (HB5.out.trans (hb2.mono HB5.out.size))
 clear hrow2 hb2 hcs2 he HC5 q0 q1
 simp only at hcp hcp2 HC1 HC2 ⊢
 generalize L.length = m at *
 go_wp2_with fail
 refine (is_same er n p _ HE.out (HG.out.later HB2.out)).mono ?_
 rintro e w3 ⟨rfl, hb3⟩
 have HB23 := Lib.hid hb3
 have HB3 := Lib.hid (HB2.out.trans (hb3.mono HB2.out.size))
 clear hb3
 go_wp2_with fail
 refine (LSame_yes og2 og m cap2 cap (nth L) _ (fun h0 => ?_) (fun h0 => ?_) hcp2 hcp h5).mono ?_
 ·obtain ⟨a, ha, hc⟩ := HC2.out h0
  exact ⟨a, ha, hc.later HB23.out⟩
 ·obtain ⟨a, ha, hc⟩ := HC1.out h0
  exact ⟨a, ha, hc.later HB23.out⟩
 rintro e w4 ⟨rfl, hb4⟩
 have HB4 := Lib.hid (HB3.out.trans (hb4.mono HB3.out.size))
 clear hb4
 go_wp2_with fail
 go_ret
 exact ⟨rfl, HB4.out⟩
end Go.Proofs.YtglilddlhibogaaGreatDoor.W
