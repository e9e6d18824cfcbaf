/- The walk of machine.call: find and time. Conditions: the machine lies in a block of 108 cells. -/
import Derived.Test.YtfpoicdfkjbknaaDoorT3
import Derived.Test.YtfpoicdfkjbknaaDoorQuietTail
import Derived.Deep.AppendLies
import Derived.Deep.RegionHeld3
import Derived.Deep.Light
import Derived.Outline
namespace Go.Proofs.YtfpoicdfkjbknaaDoor.W
open Go.RowKit Go.Proofs.YtfpoicdfkjbknaaDoor.P
set_option linter.unusedSimpArgs false
set_option linter.unusedVariables false

/-- registers 1 to k - 1 are cleared -/
def clr (f : Nat → Val) (k : Nat) : Nat → Val := fun j => if 1 ≤ j ∧ j < k then Val.none else f j
theorem clr_1 (f : Nat → Val) : clr f 1 = f := by funext j; unfold clr; rw [if_neg (by omega)]
theorem clr_succ (f : Nat → Val) {k : Nat} (hk : 1 ≤ k) : upd (clr f k) k Val.none = clr f (k + 1) := by
  funext j
  by_cases h : j = k
  · subst h; rw [upd_same]; unfold clr; rw [if_pos (by omega)]
  · rw [upd_other h]; unfold clr
    by_cases h2 : 1 ≤ j ∧ j < k
    · rw [if_pos h2, if_pos (by omega)]
    · rw [if_neg h2, if_neg (by omega)]

/-- a machine in memory: its block, and what it gave out -/
def MacAt (w : World) (b : Nat) (code : Value) (told : Nat → Int) (time : Int) (M : Mach) : Prop :=
  ∃ out, Img w b 108 (mimg code told time out M) ∧ w.ownsRow (b + 1) 2 1 out M.out.length (M.out.map (Value.int .i64))

set_option maxRecDepth 100000 in
set_option maxHeartbeats 1000000 in
theorem Call_err (b : Nat) (code : Value) (told : Nat → Int) (time : Int) (out : Value) (M : Mach) (w : World) (hI : Img w b 108 (mimg code told time out M)) (n : Int) (hn : n ≠ 2) (x : Val) (hx : M.regs 1 = x) (hk : x.kind ≠ 1) :
    Calls Tryd.prog 23 #[.pointer (some ⟨b, 0, none⟩), .int .i64 n] w fun e w' => e = .returned (.int .i64 (if x.kind = 0 then 8 else 1)) ∧ Below w.heap.size w w' := by
  have HW0 := Lib.hid (Below.refl w.heap.size w)
  have c0 := (hI.cell 4 (by omega)).trans (congrArg some ((mimg_reg (by omega : 1 < 11) (by omega : 0 < 3) (by omega)).trans (vcell_0 _)))
  have c1 := (hI.cell 5 (by omega)).trans (congrArg some ((mimg_reg (by omega : 1 < 11) (by omega : 1 < 3) (by omega)).trans (vcell_1 _)))
  have c2 := (hI.cell 6 (by omega)).trans (congrArg some ((mimg_reg (by omega : 1 < 11) (by omega : 2 < 3) (by omega)).trans (vcell_2 _)))
  rw [hx] at c0 c1 c2
  have HI := Lib.hid hI
  have HX := Lib.hid hx
  clear hI hx
  have n2 : (n != 2) = true := by rw [bne_iff_ne]; exact hn
  have k2 : (x.kind == 1) = false := by rw [beq_eq_false_iff_ne]; exact hk
  clear hn hk
  by_cases k1 : x.kind = 0
  · rw [if_pos k1]
    have q1 : (x.kind == 0) = true := by rw [beq_iff_eq]; exact k1
    clear k1
    go_enter Tryd.func23, Tryd.ntmps23
    go_wp2_with fail
    go_ret
    exact ⟨rfl, (by repeat' (first | with_reducible exact HW0.out | with_reducible exact Below.refl _ _ | with_reducible refine Below.drew ?_ | with_reducible refine Below.drewN' ?_ _ | with_reducible refine Below.alloc ?_ ?_ _ | with_reducible refine Below.setCell ?_ ?_ _ | (simp; done) | (simp; omega) | omega))⟩
  · rw [if_neg k1]
    have q1 : (x.kind == 0) = false := by rw [beq_eq_false_iff_ne]; exact k1
    clear k1
    go_enter Tryd.func23, Tryd.ntmps23
    go_wp2_with fail
    go_ret
    exact ⟨rfl, (by repeat' (first | with_reducible exact HW0.out | with_reducible exact Below.refl _ _ | with_reducible refine Below.drew ?_ | with_reducible refine Below.drewN' ?_ _ | with_reducible refine Below.alloc ?_ ?_ _ | with_reducible refine Below.setCell ?_ ?_ _ | (simp; done) | (simp; omega) | omega))⟩

set_option maxRecDepth 100000 in
set_option maxHeartbeats 1000000 in
theorem Call_find (b : Nat) (code : Value) (told : Nat → Int) (time : Int) (out : Value) (M : Mach) (w : World) (hI : Img w b 108 (mimg code told time out M)) (xn xc : Int) (hx : M.regs 1 = ⟨1, xn, xc⟩) :
    Calls Tryd.prog 23 #[.pointer (some ⟨b, 0, none⟩), .int .i64 1] w fun e w' => e = .returned (.int .i64 0) ∧ Img w' b 108 (mimg code told time out (M.call time 1).1) ∧ But b w w' := by
  have HW0 := Lib.hid (Below.refl w.heap.size w)
  have hlt := hI.lt (by omega)
  have c0 := (hI.cell 4 (by omega)).trans (congrArg some ((mimg_reg (by omega : 1 < 11) (by omega : 0 < 3) (by omega)).trans (vcell_0 _)))
  have c1 := (hI.cell 5 (by omega)).trans (congrArg some ((mimg_reg (by omega : 1 < 11) (by omega : 1 < 3) (by omega)).trans (vcell_1 _)))
  have c2 := (hI.cell 6 (by omega)).trans (congrArg some ((mimg_reg (by omega : 1 < 11) (by omega : 2 < 3) (by omega)).trans (vcell_2 _)))
  rw [hx] at c0 c1 c2
  have hfin : ∀ r : Val, (if 0 ≤ xn ∧ xn < 4 then (⟨4, 0, xn⟩ : Val) else .num 0) = r → { M with regs := upd (clr M.regs 6) 0 r } = (M.call time 1).1 := by
    intro r hr
    unfold Mach.call
    rw [hx, if_neg (by simp), if_neg (by simp)]
    simp only [if_true, hr]
    congr 1
    funext j
    by_cases h : j = 0
    · subst h; rw [upd_same]; rfl
    · rw [upd_other h, if_neg h]; unfold clr; simp only [Nat.lt_succ_iff]
  have HF := Lib.hid hfin
  have HI := Lib.hid hI
  have HX := Lib.hid hx
  clear hI hx hfin
  go_enter Tryd.func23, Tryd.ntmps23
  go_wp2_with fail
  go_loopw [6] (fun i wr => ∃ k : Nat, 1 ≤ k ∧ k ≤ 6 ∧ i = .int .i64 k ∧ Img wr b 108 (mimg code told time out { M with regs := clr M.regs k }) ∧ But b w wr ∧ wr.cell? ⟨w.heap.size, 1, none⟩ = some (.int .i64 xn) ∧ w.heap.size < wr.heap.size) (fun i _ => 6 - (intOf i).toNat)
  case atStart => exact ⟨1, by omega, by omega, rfl, by rw [clr_1]; exact HI.out.alloc _, (by repeat' (first | with_reducible exact (But.of HW0.out) | with_reducible exact But.refl _ _ | with_reducible refine But.drew ?_ | with_reducible refine But.drewN ?_ _ | with_reducible refine But.alloc ?_ _ | with_reducible refine But.setCell ?_ ?_ _ | (exact .inl rfl) | (simp; done) | (simp; omega) | omega)), by simp [go_sem], by simp⟩
  case round =>
    obtain ⟨k, hk1, hk6, rfl, hI, hB, hx, hz⟩ := hrel
    have hne : ¬ w.heap.size = b := by omega
    have hne2 : ¬ b = w.heap.size := by omega
    by_cases h : k ≤ 5
    · have i1 : (k : Int) ≤ 5 := by omega
      have i2 : (k : Int) < 11 := by omega
      have d0 := hI.cell (1 + k * 3) (by omega)
      have d1 := hI.cell (1 + k * 3 + 1) (by omega)
      have d2 := hI.cell (1 + k * 3 + 2) (by omega)
      have s0 := hI.free (1 + k * 3) (by omega)
      have s1 := hI.free (1 + k * 3 + 1) (by omega)
      have s2 := hI.free (1 + k * 3 + 2) (by omega)
      have HI1 := Lib.hid hI
      have HB1 := Lib.hid hB
      clear hI hB
      go_wp2_with fail
      go_roundw
      case rel =>
        go_light
        refine ⟨k + 1, by omega, by omega, by go_num, ?_, ?_, ?_, ?_⟩
        · have K := (((HI1.out.set (j := 1 + k * 3) (by omega) (vcell Val.none 0)).set (j := 1 + k * 3 + 1) (by omega) (vcell Val.none 1)).set (j := 1 + k * 3 + 2) (by omega) (vcell Val.none 2)).congr (mimg_setreg (by omega : k < 11) Val.none)
          rw [← clr_succ _ hk1]
          exact K
        · exact ((HB1.out.setCell (.inl rfl) _).setCell (.inl rfl) _).setCell (.inl rfl) _
        · simp [go_sem, hne, hne2, hx]
        · simpa using hz
      case measure => simp [intOf]; omega
    · obtain rfl : k = 6 := by omega
      have d0 := hI.cell 1 (by omega)
      have d1 := hI.cell 2 (by omega)
      have d2 := hI.cell 3 (by omega)
      have s0 := hI.free 1 (by omega)
      have s1 := hI.free 2 (by omega)
      have s2 := hI.free 3 (by omega)
      have HI1 := Lib.hid hI
      have HB1 := Lib.hid hB
      clear hI hB
      go_wp2_with fail
      · go_region
        all_goals
          go_wp2_with fail
          go_ret
          refine ⟨rfl, ?_, ?_⟩
          · rw [← HF.out ⟨4, 0, xn⟩ (if_pos (by omega))]
            have K := (HI1.out.setReg (r := 0) (by omega) 1 0 0 rfl rfl rfl).setReg (r := 0) (by omega) 4 0 xn rfl rfl rfl
            dsimp only at K
            rw [upd_upd] at K
            with_reducible exact K.drew
          · with_reducible exact ((((((HB1.out.setCell (.inl rfl) _).setCell (.inl rfl) _).setCell (.inl rfl) _).setCell (.inl rfl) _).setCell (.inl rfl) _).setCell (.inl rfl) _).drew
      all_goals
        go_ret
        refine ⟨rfl, ?_, ?_⟩
        · rw [← HF.out (.num 0) (if_neg (by omega))]
          exact HI1.out.setReg (r := 0) (by omega) 1 0 0 rfl rfl rfl
        · exact ((HB1.out.setCell (.inl rfl) _).setCell (.inl rfl) _).setCell (.inl rfl) _

set_option maxRecDepth 100000 in
set_option maxHeartbeats 1000000 in
theorem Call_time (b : Nat) (code : Value) (told : Nat → Int) (time : Int) (out : Value) (M : Mach) (w : World) (hI : Img w b 108 (mimg code told time out M)) (xk xn xc : Int) (hx : M.regs 1 = ⟨xk, xn, xc⟩) :
    Calls Tryd.prog 23 #[.pointer (some ⟨b, 0, none⟩), .int .i64 2] w fun e w' => e = .returned (.int .i64 0) ∧ Img w' b 108 (mimg code told time out (M.call time 2).1) ∧ But b w w' := by
  have HW0 := Lib.hid (Below.refl w.heap.size w)
  have hlt := hI.lt (by omega)
  have c0 := (hI.cell 4 (by omega)).trans (congrArg some ((mimg_reg (by omega : 1 < 11) (by omega : 0 < 3) (by omega)).trans (vcell_0 _)))
  have c1 := (hI.cell 5 (by omega)).trans (congrArg some ((mimg_reg (by omega : 1 < 11) (by omega : 1 < 3) (by omega)).trans (vcell_1 _)))
  have c2 := (hI.cell 6 (by omega)).trans (congrArg some ((mimg_reg (by omega : 1 < 11) (by omega : 2 < 3) (by omega)).trans (vcell_2 _)))
  rw [hx] at c0 c1 c2
  have hfin : { M with regs := upd (clr M.regs 6) 0 (.num time) } = (M.call time 2).1 := by
    unfold Mach.call
    rw [if_neg (by simp), if_neg (by simp)]
    simp only [show ¬ (2 : Int) = 1 by decide, if_true, if_false, not_true, and_false, false_and]
    congr 1
    funext j
    by_cases h : j = 0
    · subst h; rw [upd_same]; rfl
    · rw [upd_other h, if_neg h]; unfold clr; simp only [Nat.lt_succ_iff]
  have HF := Lib.hid hfin
  have HI := Lib.hid hI
  have HX := Lib.hid hx
  clear hI hx hfin
  go_enter Tryd.func23, Tryd.ntmps23
  go_wp2_with fail
  go_loopw [6] (fun i wr => ∃ k : Nat, 1 ≤ k ∧ k ≤ 6 ∧ i = .int .i64 k ∧ Img wr b 108 (mimg code told time out { M with regs := clr M.regs k }) ∧ But b w wr ∧ wr.cell? ⟨w.heap.size, 1, none⟩ = some (.int .i64 xn) ∧ w.heap.size < wr.heap.size) (fun i _ => 6 - (intOf i).toNat)
  case atStart => exact ⟨1, by omega, by omega, rfl, by rw [clr_1]; exact HI.out.alloc _, (by repeat' (first | with_reducible exact (But.of HW0.out) | with_reducible exact But.refl _ _ | with_reducible refine But.drew ?_ | with_reducible refine But.drewN ?_ _ | with_reducible refine But.alloc ?_ _ | with_reducible refine But.setCell ?_ ?_ _ | (exact .inl rfl) | (simp; done) | (simp; omega) | omega)), by simp [go_sem], by simp⟩
  case round =>
    obtain ⟨k, hk1, hk6, rfl, hI, hB, hx, hz⟩ := hrel
    have hne : ¬ w.heap.size = b := by omega
    have hne2 : ¬ b = w.heap.size := by omega
    by_cases h : k ≤ 5
    · have i1 : (k : Int) ≤ 5 := by omega
      have i2 : (k : Int) < 11 := by omega
      have d0 := hI.cell (1 + k * 3) (by omega)
      have d1 := hI.cell (1 + k * 3 + 1) (by omega)
      have d2 := hI.cell (1 + k * 3 + 2) (by omega)
      have s0 := hI.free (1 + k * 3) (by omega)
      have s1 := hI.free (1 + k * 3 + 1) (by omega)
      have s2 := hI.free (1 + k * 3 + 2) (by omega)
      have HI1 := Lib.hid hI
      have HB1 := Lib.hid hB
      clear hI hB
      go_wp2_with fail
      go_roundw
      case rel =>
        go_light
        refine ⟨k + 1, by omega, by omega, by go_num, ?_, ?_, ?_, ?_⟩
        · have K := (((HI1.out.set (j := 1 + k * 3) (by omega) (vcell Val.none 0)).set (j := 1 + k * 3 + 1) (by omega) (vcell Val.none 1)).set (j := 1 + k * 3 + 2) (by omega) (vcell Val.none 2)).congr (mimg_setreg (by omega : k < 11) Val.none)
          rw [← clr_succ _ hk1]
          exact K
        · exact ((HB1.out.setCell (.inl rfl) _).setCell (.inl rfl) _).setCell (.inl rfl) _
        · simp [go_sem, hne, hne2, hx]
        · simpa using hz
      case measure => simp [intOf]; omega
    · obtain rfl : k = 6 := by omega
      have d0 := hI.cell 1 (by omega)
      have d1 := hI.cell 2 (by omega)
      have d2 := hI.cell 3 (by omega)
      have s0 := hI.free 1 (by omega)
      have s1 := hI.free 2 (by omega)
      have s2 := hI.free 3 (by omega)
      have HI1 := Lib.hid hI
      have HB1 := Lib.hid hB
      have d6 : wr.cell? ⟨b, 106, none⟩ = some (.int .i64 time) := HI1.out.cell 106 (by omega)
      clear hI hB
      go_wp2_with fail
      go_region
      all_goals
        go_wp2_with fail
        go_ret
        refine ⟨rfl, ?_, ?_⟩
        · rw [← HF.out]
          have K := (HI1.out.setReg (r := 0) (by omega) 1 0 0 rfl rfl rfl).setRegN (r := 0) (by omega) time rfl
          dsimp only at K
          rw [upd_upd, upd_same] at K
          dsimp only at K
          unfold Val.num
          with_reducible exact K.drew
        · with_reducible exact ((((HB1.out.setCell (.inl rfl) _).setCell (.inl rfl) _).setCell (.inl rfl) _).setCell (.inl rfl) _).drew

end Go.Proofs.YtfpoicdfkjbknaaDoor.W
