/- The walk of the reference's call: find and time. Conditions: the box lies in a block of 109 cells. -/
import Derived.Test.YtfpoicdfkjbknaaDoorR4
import Derived.Test.YtfpoicdfkjbknaaDoorT5
namespace Go.Proofs.YtfpoicdfkjbknaaDoor.W
open Go.RowKit Go.Proofs.YtfpoicdfkjbknaaDoor.P
set_option linter.unusedSimpArgs false
set_option linter.unusedVariables false

theorem clr_call (f : Nat → Val) (r : Val) : clr (upd f 0 r) 6 = fun j => if j = 0 then r else if 1 ≤ j ∧ j ≤ 5 then Val.none else f j := by
  funext j
  unfold clr
  by_cases h : j = 0
  · subst h; rw [if_neg (by omega), if_pos rfl, upd_same]
  · rw [if_neg h]
    by_cases h2 : 1 ≤ j ∧ j ≤ 5
    · rw [if_pos (by omega), if_pos h2]
    · rw [if_neg (by omega), if_neg h2, upd_other h]

set_option maxRecDepth 100000 in
set_option maxHeartbeats 2000000 in
theorem RefCall_low (b : Nat) (told : Nat → Int) (time num st : Int) (out : Value) (M : Mach) (w : World) (hI : Img w b 109 (bimg told time num st out M)) (xk xn xc : Int) (hx : M.regs 1 = ⟨xk, xn, xc⟩) (h1 : xk = 1) (h2 : xn < 0) :
    Calls Tryd.prog 41 #[.pointer (some ⟨b, 0, none⟩), .int .i64 1] w fun e w' => e = .returned (.int .i64 0) ∧ Img w' b 109 (bimg told time num st out (M.call time 1).1) ∧ But b w w' := by
  have HW0 := Lib.hid (Below.refl w.heap.size w)
  have hlt := hI.lt (by omega)
  have c0 := (hI.cell 3 (by omega)).trans (congrArg some ((bimg_at (r := 1) (by omega) (by omega : 0 < 3) (by omega)).trans (rcell_0 _)))
  have c1 := (hI.cell 4 (by omega)).trans (congrArg some ((bimg_at (r := 1) (by omega) (by omega : 1 < 3) (by omega)).trans (rcell_1 _)))
  have c2 := (hI.cell 5 (by omega)).trans (congrArg some ((bimg_at (r := 1) (by omega) (by omega : 2 < 3) (by omega)).trans (rcell_2 _)))
  rw [at_reg (by omega : 1 < 11), hx] at c0 c1 c2
  have f0 := hI.cell 0 (by omega); have f1 := hI.cell 1 (by omega); have f2 := hI.cell 2 (by omega)
  have g0 := hI.free 0 (by omega); have g1 := hI.free 1 (by omega); have g2 := hI.free 2 (by omega)
  have ft : w.cell? ⟨b, 108, none⟩ = some (.int .i64 time) := hI.cell 108 (by omega)
  have hfin : (M.call time 1).1 = { M with regs := clr (upd M.regs 0 ⟨1, 0, 0⟩) 6 } := by
    rw [clr_call]
    unfold Mach.call
    rw [hx]
    simp [Val.num, h1, show ¬ (0 ≤ xn ∧ xn < 4) by omega]
  have HF := Lib.hid hfin
  have HI := Lib.hid hI
  have S0 := hI.bsetReg (r := 0) (by omega) ⟨1, 0, 0⟩ rfl rfl rfl
  clear hI hx hfin
  subst h1
  have HS0 := Lib.hid S0
  clear S0
  go_enter Tryd.func41, Tryd.ntmps41
  go_wp2_with fail
  have K := HI.out.bsetReg (r := 0) (by omega) ⟨1, 0, 0⟩ rfl rfl rfl
  dsimp only at K
  have KB := ((((But.refl b w).setCell (p := ⟨b, 0, none⟩) (.inl rfl) (.int .u8 110)).setCell (p := ⟨b, 1, none⟩) (.inl rfl) (.int .i64 0)).setCell (p := ⟨b, 2, none⟩) (.inl rfl) (.int .i64 0))
  generalize hW : World.alloc (World.setCell _ _ _) _ = ws
  have HS : Hid (Img ws b 109 (bimg told time num st out { M with regs := upd M.regs 0 ⟨1, 0, 0⟩ })) := Lib.hid (by rw [← hW]; exact K.alloc _)
  have HBs : Hid (But b w ws) := Lib.hid (by rw [← hW]; exact KB.alloc _)
  clear hW K KB f0 f1 f2 g0 g1 g2 ft c0 c1 c2
  go_loopw [6] (fun i wr => ∃ k : Nat, 1 ≤ k ∧ k ≤ 6 ∧ i = .int .i64 k ∧ Img wr b 109 (bimg told time num st out { M with regs := clr (upd M.regs 0 ⟨1, 0, 0⟩) k }) ∧ But b w wr) (fun i _ => 6 - (intOf i).toNat)
  case atStart => exact ⟨1, by omega, by omega, rfl, by rw [clr_1]; exact HS.out, HBs.out⟩
  case round =>
    obtain ⟨k, hk1, hk6, rfl, hI, hB⟩ := hrel
    by_cases h : k ≤ 5
    · have i1 : (k : Int) ≤ 5 := by omega
      have i2 : (k : Int) < 27 := by omega
      have d0 := hI.cell (k * 3) (by omega)
      have d1 := hI.cell (k * 3 + 1) (by omega)
      have d2 := hI.cell (k * 3 + 2) (by omega)
      have s0 := hI.free (k * 3) (by omega)
      have s1 := hI.free (k * 3 + 1) (by omega)
      have s2 := hI.free (k * 3 + 2) (by omega)
      have HI1 := Lib.hid hI
      have HB1 := Lib.hid hB
      clear hI hB
      go_wp2_with fail
      go_roundw
      case rel =>
        go_light
        refine ⟨k + 1, by omega, by omega, by go_num, ?_, ?_⟩
        · rw [← clr_succ _ hk1]
          exact HI1.out.bsetReg (by omega : k < 11) Val.none rfl rfl rfl
        · exact ((HB1.out.setCell (.inl rfl) _).setCell (.inl rfl) _).setCell (.inl rfl) _
      case measure => simp [intOf]; omega
    · obtain rfl : k = 6 := by omega
      have HI1 := Lib.hid hI
      have HB1 := Lib.hid hB
      clear hI hB
      go_wp2_with fail
      go_ret
      refine ⟨rfl, ?_, HB1.out⟩
      rw [HF.out]
      exact HI1.out

set_option maxRecDepth 100000 in
set_option maxHeartbeats 2000000 in
theorem RefCall_high (b : Nat) (told : Nat → Int) (time num st : Int) (out : Value) (M : Mach) (w : World) (hI : Img w b 109 (bimg told time num st out M)) (xk xn xc : Int) (hx : M.regs 1 = ⟨xk, xn, xc⟩) (h1 : xk = 1) (h2 : 4 ≤ xn) :
    Calls Tryd.prog 41 #[.pointer (some ⟨b, 0, none⟩), .int .i64 1] w fun e w' => e = .returned (.int .i64 0) ∧ Img w' b 109 (bimg told time num st out (M.call time 1).1) ∧ But b w w' := by
  have HW0 := Lib.hid (Below.refl w.heap.size w)
  have hlt := hI.lt (by omega)
  have c0 := (hI.cell 3 (by omega)).trans (congrArg some ((bimg_at (r := 1) (by omega) (by omega : 0 < 3) (by omega)).trans (rcell_0 _)))
  have c1 := (hI.cell 4 (by omega)).trans (congrArg some ((bimg_at (r := 1) (by omega) (by omega : 1 < 3) (by omega)).trans (rcell_1 _)))
  have c2 := (hI.cell 5 (by omega)).trans (congrArg some ((bimg_at (r := 1) (by omega) (by omega : 2 < 3) (by omega)).trans (rcell_2 _)))
  rw [at_reg (by omega : 1 < 11), hx] at c0 c1 c2
  have f0 := hI.cell 0 (by omega); have f1 := hI.cell 1 (by omega); have f2 := hI.cell 2 (by omega)
  have g0 := hI.free 0 (by omega); have g1 := hI.free 1 (by omega); have g2 := hI.free 2 (by omega)
  have ft : w.cell? ⟨b, 108, none⟩ = some (.int .i64 time) := hI.cell 108 (by omega)
  have hfin : (M.call time 1).1 = { M with regs := clr (upd M.regs 0 ⟨1, 0, 0⟩) 6 } := by
    rw [clr_call]
    unfold Mach.call
    rw [hx]
    simp [Val.num, h1, show ¬ (0 ≤ xn ∧ xn < 4) by omega]
  have HF := Lib.hid hfin
  have HI := Lib.hid hI
  have S0 := hI.bsetReg (r := 0) (by omega) ⟨1, 0, 0⟩ rfl rfl rfl
  clear hI hx hfin
  subst h1
  have HS0 := Lib.hid S0
  clear S0
  go_enter Tryd.func41, Tryd.ntmps41
  go_wp2_with fail
  have K := HI.out.bsetReg (r := 0) (by omega) ⟨1, 0, 0⟩ rfl rfl rfl
  dsimp only at K
  have KB := ((((But.refl b w).setCell (p := ⟨b, 0, none⟩) (.inl rfl) (.int .u8 110)).setCell (p := ⟨b, 1, none⟩) (.inl rfl) (.int .i64 0)).setCell (p := ⟨b, 2, none⟩) (.inl rfl) (.int .i64 0))
  generalize hW : World.alloc (World.setCell _ _ _) _ = ws
  have HS : Hid (Img ws b 109 (bimg told time num st out { M with regs := upd M.regs 0 ⟨1, 0, 0⟩ })) := Lib.hid (by rw [← hW]; exact K.alloc _)
  have HBs : Hid (But b w ws) := Lib.hid (by rw [← hW]; exact KB.alloc _)
  clear hW K KB f0 f1 f2 g0 g1 g2 ft c0 c1 c2
  go_loopw [6] (fun i wr => ∃ k : Nat, 1 ≤ k ∧ k ≤ 6 ∧ i = .int .i64 k ∧ Img wr b 109 (bimg told time num st out { M with regs := clr (upd M.regs 0 ⟨1, 0, 0⟩) k }) ∧ But b w wr) (fun i _ => 6 - (intOf i).toNat)
  case atStart => exact ⟨1, by omega, by omega, rfl, by rw [clr_1]; exact HS.out, HBs.out⟩
  case round =>
    obtain ⟨k, hk1, hk6, rfl, hI, hB⟩ := hrel
    by_cases h : k ≤ 5
    · have i1 : (k : Int) ≤ 5 := by omega
      have i2 : (k : Int) < 27 := by omega
      have d0 := hI.cell (k * 3) (by omega)
      have d1 := hI.cell (k * 3 + 1) (by omega)
      have d2 := hI.cell (k * 3 + 2) (by omega)
      have s0 := hI.free (k * 3) (by omega)
      have s1 := hI.free (k * 3 + 1) (by omega)
      have s2 := hI.free (k * 3 + 2) (by omega)
      have HI1 := Lib.hid hI
      have HB1 := Lib.hid hB
      clear hI hB
      go_wp2_with fail
      go_roundw
      case rel =>
        go_light
        refine ⟨k + 1, by omega, by omega, by go_num, ?_, ?_⟩
        · rw [← clr_succ _ hk1]
          exact HI1.out.bsetReg (by omega : k < 11) Val.none rfl rfl rfl
        · exact ((HB1.out.setCell (.inl rfl) _).setCell (.inl rfl) _).setCell (.inl rfl) _
      case measure => simp [intOf]; omega
    · obtain rfl : k = 6 := by omega
      have HI1 := Lib.hid hI
      have HB1 := Lib.hid hB
      clear hI hB
      go_wp2_with fail
      go_ret
      refine ⟨rfl, ?_, HB1.out⟩
      rw [HF.out]
      exact HI1.out

set_option maxRecDepth 100000 in
set_option maxHeartbeats 2000000 in
theorem RefCall_find (b : Nat) (told : Nat → Int) (time num st : Int) (out : Value) (M : Mach) (w : World) (hI : Img w b 109 (bimg told time num st out M)) (xk xn xc : Int) (hx : M.regs 1 = ⟨xk, xn, xc⟩) (h1 : xk = 1) (h2 : 0 ≤ xn ∧ xn < 4) :
    Calls Tryd.prog 41 #[.pointer (some ⟨b, 0, none⟩), .int .i64 1] w fun e w' => e = .returned (.int .i64 0) ∧ Img w' b 109 (bimg told time num st out (M.call time 1).1) ∧ But b w w' := by
  have HW0 := Lib.hid (Below.refl w.heap.size w)
  have hlt := hI.lt (by omega)
  have c0 := (hI.cell 3 (by omega)).trans (congrArg some ((bimg_at (r := 1) (by omega) (by omega : 0 < 3) (by omega)).trans (rcell_0 _)))
  have c1 := (hI.cell 4 (by omega)).trans (congrArg some ((bimg_at (r := 1) (by omega) (by omega : 1 < 3) (by omega)).trans (rcell_1 _)))
  have c2 := (hI.cell 5 (by omega)).trans (congrArg some ((bimg_at (r := 1) (by omega) (by omega : 2 < 3) (by omega)).trans (rcell_2 _)))
  rw [at_reg (by omega : 1 < 11), hx] at c0 c1 c2
  have f0 := hI.cell 0 (by omega); have f1 := hI.cell 1 (by omega); have f2 := hI.cell 2 (by omega)
  have g0 := hI.free 0 (by omega); have g1 := hI.free 1 (by omega); have g2 := hI.free 2 (by omega)
  have ft : w.cell? ⟨b, 108, none⟩ = some (.int .i64 time) := hI.cell 108 (by omega)
  have hfin : (M.call time 1).1 = { M with regs := clr (upd M.regs 0 ⟨4, 0, xn⟩) 6 } := by
    rw [clr_call]
    unfold Mach.call
    rw [hx]
    simp [Val.num, h1, h2]
  have HF := Lib.hid hfin
  have HI := Lib.hid hI
  have S0 := hI.bsetReg (r := 0) (by omega) ⟨1, 0, 0⟩ rfl rfl rfl
  clear hI hx hfin
  subst h1
  obtain ⟨h2, h3⟩ := h2
  have HS0 := Lib.hid S0
  clear S0
  go_enter Tryd.func41, Tryd.ntmps41
  go_wp2_with fail
  go_region
  all_goals go_wp2_with fail
  have K := (HI.out.bsetReg (r := 0) (by omega) ⟨1, 0, 0⟩ rfl rfl rfl).bsetReg (r := 0) (by omega) ⟨4, 0, xn⟩ rfl rfl rfl
  dsimp only at K
  rw [upd_upd] at K
  have KB := (((((((But.refl b w).setCell (p := ⟨b, 0, none⟩) (.inl rfl) (.int .u8 110)).setCell (p := ⟨b, 1, none⟩) (.inl rfl) (.int .i64 0)).setCell (p := ⟨b, 2, none⟩) (.inl rfl) (.int .i64 0)).setCell (p := ⟨b, 0, none⟩) (.inl rfl) (.int .u8 99)).setCell (p := ⟨b, 1, none⟩) (.inl rfl) (.int .i64 0)).setCell (p := ⟨b, 2, none⟩) (.inl rfl) (.int .i64 xn))
  generalize hW : World.drew (World.alloc (World.setCell _ _ _) _) = ws
  have HS : Hid (Img ws b 109 (bimg told time num st out { M with regs := upd M.regs 0 ⟨4, 0, xn⟩ })) := Lib.hid (by rw [← hW]; exact (K.alloc _).drew)
  have HBs : Hid (But b w ws) := Lib.hid (by rw [← hW]; exact (KB.alloc _).drew)
  clear hW K KB f0 f1 f2 g0 g1 g2 ft c0 c1 c2
  go_loopw [6] (fun i wr => ∃ k : Nat, 1 ≤ k ∧ k ≤ 6 ∧ i = .int .i64 k ∧ Img wr b 109 (bimg told time num st out { M with regs := clr (upd M.regs 0 ⟨4, 0, xn⟩) k }) ∧ But b w wr) (fun i _ => 6 - (intOf i).toNat)
  case atStart => exact ⟨1, by omega, by omega, rfl, by rw [clr_1]; exact HS.out, HBs.out⟩
  case round =>
    obtain ⟨k, hk1, hk6, rfl, hI, hB⟩ := hrel
    by_cases h : k ≤ 5
    · have i1 : (k : Int) ≤ 5 := by omega
      have i2 : (k : Int) < 27 := by omega
      have d0 := hI.cell (k * 3) (by omega)
      have d1 := hI.cell (k * 3 + 1) (by omega)
      have d2 := hI.cell (k * 3 + 2) (by omega)
      have s0 := hI.free (k * 3) (by omega)
      have s1 := hI.free (k * 3 + 1) (by omega)
      have s2 := hI.free (k * 3 + 2) (by omega)
      have HI1 := Lib.hid hI
      have HB1 := Lib.hid hB
      clear hI hB
      go_wp2_with fail
      go_roundw
      case rel =>
        go_light
        refine ⟨k + 1, by omega, by omega, by go_num, ?_, ?_⟩
        · rw [← clr_succ _ hk1]
          exact HI1.out.bsetReg (by omega : k < 11) Val.none rfl rfl rfl
        · exact ((HB1.out.setCell (.inl rfl) _).setCell (.inl rfl) _).setCell (.inl rfl) _
      case measure => simp [intOf]; omega
    · obtain rfl : k = 6 := by omega
      have HI1 := Lib.hid hI
      have HB1 := Lib.hid hB
      clear hI hB
      go_wp2_with fail
      go_ret
      refine ⟨rfl, ?_, HB1.out⟩
      rw [HF.out]
      exact HI1.out

set_option maxRecDepth 100000 in
set_option maxHeartbeats 2000000 in
theorem RefCall_time (b : Nat) (told : Nat → Int) (time num st : Int) (out : Value) (M : Mach) (w : World) (hI : Img w b 109 (bimg told time num st out M)) (xk xn xc : Int) (hx : M.regs 1 = ⟨xk, xn, xc⟩)  :
    Calls Tryd.prog 41 #[.pointer (some ⟨b, 0, none⟩), .int .i64 2] w fun e w' => e = .returned (.int .i64 0) ∧ Img w' b 109 (bimg told time num st out (M.call time 2).1) ∧ But b w w' := by
  have HW0 := Lib.hid (Below.refl w.heap.size w)
  have hlt := hI.lt (by omega)
  have c0 := (hI.cell 3 (by omega)).trans (congrArg some ((bimg_at (r := 1) (by omega) (by omega : 0 < 3) (by omega)).trans (rcell_0 _)))
  have c1 := (hI.cell 4 (by omega)).trans (congrArg some ((bimg_at (r := 1) (by omega) (by omega : 1 < 3) (by omega)).trans (rcell_1 _)))
  have c2 := (hI.cell 5 (by omega)).trans (congrArg some ((bimg_at (r := 1) (by omega) (by omega : 2 < 3) (by omega)).trans (rcell_2 _)))
  rw [at_reg (by omega : 1 < 11), hx] at c0 c1 c2
  have f0 := hI.cell 0 (by omega); have f1 := hI.cell 1 (by omega); have f2 := hI.cell 2 (by omega)
  have g0 := hI.free 0 (by omega); have g1 := hI.free 1 (by omega); have g2 := hI.free 2 (by omega)
  have ft : w.cell? ⟨b, 108, none⟩ = some (.int .i64 time) := hI.cell 108 (by omega)
  have hfin : (M.call time 2).1 = { M with regs := clr (upd M.regs 0 ⟨1, time, 0⟩) 6 } := by
    rw [clr_call]
    unfold Mach.call
    rw [hx]
    simp [Val.num]
  have HF := Lib.hid hfin
  have HI := Lib.hid hI
  have S0 := hI.bsetReg (r := 0) (by omega) ⟨1, 0, 0⟩ rfl rfl rfl
  clear hI hx hfin
  have HS0 := Lib.hid S0
  clear S0
  go_enter Tryd.func41, Tryd.ntmps41
  go_wp2_with fail
  go_region
  all_goals go_wp2_with fail
  have K := ((HI.out.bsetReg (r := 0) (by omega) ⟨1, 0, 0⟩ rfl rfl rfl).bsetRegN (r := 0) (by omega) time rfl)
  dsimp only at K
  rw [upd_upd, upd_same] at K
  have KB := ((((But.refl b w).setCell (p := ⟨b, 0, none⟩) (.inl rfl) (.int .u8 110)).setCell (p := ⟨b, 1, none⟩) (.inl rfl) (.int .i64 0)).setCell (p := ⟨b, 2, none⟩) (.inl rfl) (.int .i64 0)).setCell (p := ⟨b, 1, none⟩) (.inl rfl) (.int .i64 time)
  generalize hW : World.drew (World.alloc (World.setCell _ _ _) _) = ws
  have HS : Hid (Img ws b 109 (bimg told time num st out { M with regs := upd M.regs 0 ⟨1, time, 0⟩ })) := Lib.hid (by rw [← hW]; exact (K.alloc _).drew)
  have HBs : Hid (But b w ws) := Lib.hid (by rw [← hW]; exact (KB.alloc _).drew)
  clear hW K KB f0 f1 f2 g0 g1 g2 ft c0 c1 c2
  go_loopw [6] (fun i wr => ∃ k : Nat, 1 ≤ k ∧ k ≤ 6 ∧ i = .int .i64 k ∧ Img wr b 109 (bimg told time num st out { M with regs := clr (upd M.regs 0 ⟨1, time, 0⟩) k }) ∧ But b w wr) (fun i _ => 6 - (intOf i).toNat)
  case atStart => exact ⟨1, by omega, by omega, rfl, by rw [clr_1]; exact HS.out, HBs.out⟩
  case round =>
    obtain ⟨k, hk1, hk6, rfl, hI, hB⟩ := hrel
    by_cases h : k ≤ 5
    · have i1 : (k : Int) ≤ 5 := by omega
      have i2 : (k : Int) < 27 := by omega
      have d0 := hI.cell (k * 3) (by omega)
      have d1 := hI.cell (k * 3 + 1) (by omega)
      have d2 := hI.cell (k * 3 + 2) (by omega)
      have s0 := hI.free (k * 3) (by omega)
      have s1 := hI.free (k * 3 + 1) (by omega)
      have s2 := hI.free (k * 3 + 2) (by omega)
      have HI1 := Lib.hid hI
      have HB1 := Lib.hid hB
      clear hI hB
      go_wp2_with fail
      go_roundw
      case rel =>
        go_light
        refine ⟨k + 1, by omega, by omega, by go_num, ?_, ?_⟩
        · rw [← clr_succ _ hk1]
          exact HI1.out.bsetReg (by omega : k < 11) Val.none rfl rfl rfl
        · exact ((HB1.out.setCell (.inl rfl) _).setCell (.inl rfl) _).setCell (.inl rfl) _
      case measure => simp [intOf]; omega
    · obtain rfl : k = 6 := by omega
      have HI1 := Lib.hid hI
      have HB1 := Lib.hid hB
      clear hI hB
      go_wp2_with fail
      go_ret
      refine ⟨rfl, ?_, HB1.out⟩
      rw [HF.out]
      exact HI1.out
end Go.Proofs.YtfpoicdfkjbknaaDoor.W
