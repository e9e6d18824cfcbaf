/- OpEven: the walk of the law and of its fact (counted), over the contracts of package op and the plain laws. No conditions. -/
import Derived.Test.YtfmcapmaebfppaaWalkOp
import Derived.Deep.QuietTactic
import Derived.BigQuiet
import Derived.RowKit3
namespace Go.Proofs.Ytfmcapmaebfppaa.W
open Go.RowKit Go.Proofs.Ytfmcapmaebfppaa.P

set_option maxHeartbeats 1000000 in
theorem counted_any (w : World) :
    Calls Try.prog 6 #[] w fun e w' => e = .returned (.bool true) ∧ w = w' := by
  have c1 : P.does 2 2 3 = 5 := by decide +kernel
  have c2 : P.does 12 (-8) 1 = -4 := by decide +kernel
  have c3 : P.does 5 (-1) 2 = 9223372036854775807 := by decide +kernel
  have c4 : P.is 17 (-1) 1 = true := by decide +kernel
  have c5 : P.is 21 (-1) 1 = false := by decide +kernel
  have c6 : P.fill 5 = 7 := by decide +kernel
  have i5 : In64 5 := by decide
  go_enter Try.func6, Try.ntmps6
  go_wp2_with (first | (go_at_call 7; refine (Does_any _ _ _ _).mono ?_; rintro e w' ⟨rfl, rfl⟩) | (go_at_call 8; refine (Is_any _ _ _ _).mono ?_; rintro e w' ⟨rfl, rfl⟩) | (go_at_call 9; refine (Fill_any _ i5 _).mono ?_; rintro e w' ⟨rfl, rfl⟩))
  go_ret
  exact ⟨rfl, rfl⟩

theorem par (c d a b : Int) (h : P.is c a b ≠ P.is d a b) : (P.is c a b == P.is d a b) = false := by
  cases h1 : P.is c a b <;> cases h2 : P.is d a b <;> simp_all

abbrev arr : Value := .agg #[.int .i64 15, .int .i64 16, .int .i64 17, .int .i64 20, .int .i64 18, .int .i64 19, .int .i64 21, .int .i64 24, .int .i64 22, .int .i64 23]
theorem arr0 (w : World) : (Instr.index 25 (.agg #[.int .i64 15, .int .i64 16, .int .i64 17, .int .i64 20, .int .i64 18, .int .i64 19, .int .i64 21, .int .i64 24, .int .i64 22, .int .i64 23]) (.int .i64 0)).run Try.prog w = .ok (.agg #[.int .i64 15, .int .i64 16]) w := by kernel_rfl
theorem arr1 (w : World) : (Instr.index 25 (.agg #[.int .i64 15, .int .i64 16, .int .i64 17, .int .i64 20, .int .i64 18, .int .i64 19, .int .i64 21, .int .i64 24, .int .i64 22, .int .i64 23]) (.int .i64 1)).run Try.prog w = .ok (.agg #[.int .i64 17, .int .i64 20]) w := by kernel_rfl
theorem arr2 (w : World) : (Instr.index 25 (.agg #[.int .i64 15, .int .i64 16, .int .i64 17, .int .i64 20, .int .i64 18, .int .i64 19, .int .i64 21, .int .i64 24, .int .i64 22, .int .i64 23]) (.int .i64 2)).run Try.prog w = .ok (.agg #[.int .i64 18, .int .i64 19]) w := by kernel_rfl
theorem arr3 (w : World) : (Instr.index 25 (.agg #[.int .i64 15, .int .i64 16, .int .i64 17, .int .i64 20, .int .i64 18, .int .i64 19, .int .i64 21, .int .i64 24, .int .i64 22, .int .i64 23]) (.int .i64 3)).run Try.prog w = .ok (.agg #[.int .i64 21, .int .i64 24]) w := by kernel_rfl
theorem arr4 (w : World) : (Instr.index 25 (.agg #[.int .i64 15, .int .i64 16, .int .i64 17, .int .i64 20, .int .i64 18, .int .i64 19, .int .i64 21, .int .i64 24, .int .i64 22, .int .i64 23]) (.int .i64 4)).run Try.prog w = .ok (.agg #[.int .i64 22, .int .i64 23]) w := by kernel_rfl

theorem in64_wf {a : Int} (h : (Lit.int .i64 a).wf = true) : In64 a := by
  simp [Lit.wf, IntKind.min, IntKind.max, IntKind.signed, IntKind.bits] at h
  exact h

theorem grown_drewN {W w' : World} (h : Grown W w') (n : Nat) : Grown W (w'.drewN n) := h

set_option maxHeartbeats 20000000 in
theorem walk (a b : Int) (w0 : (Lit.int .i64 a).wf = true) (w1 : (Lit.int .i64 b).wf = true) (w : World) :
    Calls Try.prog 3 #[.int .i64 a, .int .i64 b] w fun e w' => e = .returned (.bool true) ∧ Grown w w' := by
  have ia : In64 a := in64_wf w0
  have ib : In64 b := in64_wf w1
  have IB := Lib.hid ib
  clear w0 w1 ib
  go_enter Try.func3, Try.ntmps3
  go_wp2_with fail
  refine (counted_any _).mono ?_
  rintro e w' ⟨rfl, rfl⟩
  go_wp2_with fail
  go_loopw [17] (fun i wr => ∃ k : Nat, k ≤ 5 ∧ i = .int .i64 k ∧ Grown w wr) (fun i _ => 5 - (intOf i).toNat)
  case atStart => exact ⟨0, by omega, rfl, Grown.refl _⟩
  case round =>
    obtain ⟨k, hk, rfl, hg⟩ := hrel
    obtain ⟨h1, h2, h3, h4, h5⟩ := even_is a b
    have p1 := par _ _ _ _ h1
    have p2 := par _ _ _ _ h2
    have p3 := par _ _ _ _ h3
    have p4 := par _ _ _ _ h4
    have p5 := par _ _ _ _ h5
    clear h1 h2 h3 h4 h5
    have hkk : k = 0 ∨ k = 1 ∨ k = 2 ∨ k = 3 ∨ k = 4 ∨ k = 5 := by omega
    rcases hkk with rfl | rfl | rfl | rfl | rfl | rfl
    · have i0 := arr0
      have hgg := Lib.hid hg
      clear hg
      go_wp2_with fail
      go_quiet ((go_at_call 8; exact Calls.quiet_of_same ((Is_any _ _ _ _).mono (fun _ _ h => ⟨h.1, h.2.symm⟩))))
      go_wp2_with fail
      go_roundw
      case rel => exact ⟨1, by omega, by go_num, grown_drewN (hgg.out.alloc _ _) _⟩
      case measure => simp [intOf]
    · have i0 := arr1
      have hgg := Lib.hid hg
      clear hg
      go_wp2_with fail
      go_quiet ((go_at_call 8; exact Calls.quiet_of_same ((Is_any _ _ _ _).mono (fun _ _ h => ⟨h.1, h.2.symm⟩))))
      go_wp2_with fail
      go_roundw
      case rel => exact ⟨2, by omega, by go_num, grown_drewN (hgg.out.alloc _ _) _⟩
      case measure => simp [intOf]
    · have i0 := arr2
      have hgg := Lib.hid hg
      clear hg
      go_wp2_with fail
      go_quiet ((go_at_call 8; exact Calls.quiet_of_same ((Is_any _ _ _ _).mono (fun _ _ h => ⟨h.1, h.2.symm⟩))))
      go_wp2_with fail
      go_roundw
      case rel => exact ⟨3, by omega, by go_num, grown_drewN (hgg.out.alloc _ _) _⟩
      case measure => simp [intOf]
    · have i0 := arr3
      have hgg := Lib.hid hg
      clear hg
      go_wp2_with fail
      go_quiet ((go_at_call 8; exact Calls.quiet_of_same ((Is_any _ _ _ _).mono (fun _ _ h => ⟨h.1, h.2.symm⟩))))
      go_wp2_with fail
      go_roundw
      case rel => exact ⟨4, by omega, by go_num, grown_drewN (hgg.out.alloc _ _) _⟩
      case measure => simp [intOf]
    · have i0 := arr4
      have hgg := Lib.hid hg
      clear hg
      go_wp2_with fail
      go_quiet ((go_at_call 8; exact Calls.quiet_of_same ((Is_any _ _ _ _).mono (fun _ _ h => ⟨h.1, h.2.symm⟩))))
      go_wp2_with fail
      go_roundw
      case rel => exact ⟨5, by omega, by go_num, grown_drewN (hgg.out.alloc _ _) _⟩
      case measure => simp [intOf]
    · have hgg := Lib.hid hg
      clear hg p1 p2 p3 p4 p5
      have q1 : (P.does 3 (P.does 2 a b) b == a) = true := by simp [even_sub ia]
      have q2 : (P.does 2 (P.does 7 a b) (P.does 8 a b) == P.does 2 a b) = true := by simp [even_bits]
      have q3 : (P.does 9 (P.does 9 a b) b == a) = true := by simp [even_xor ia]
      have q4 : (P.does 13 (P.does 13 a 0) 0 == a) = true := by simp [even_neg ia]
      have IA := Lib.hid ia
      have hf := Lib.hid (fill_ge (n := a))
      have hfi := Lib.hid (fill_in ia)
      have hfa := Lib.hid (fill_and ia)
      clear ia
      by_cases hb : b = 0
      · have hb1 : (b == 0) = true := by simp [hb]
        have hb2 : (b != 0) = false := by simp [hb]
        clear hb
        by_cases ha : a ≤ 0
        · have q5 : (P.fill a == 0) = true := by simp [P.fill, ha]
          go_wp2_with (first | (go_at_call 7; refine (Does_any _ _ _ _).mono ?_; rintro e w' ⟨rfl, rfl⟩) | (go_at_call 9; refine (Fill_any _ IA.out _).mono ?_; rintro e w' ⟨rfl, rfl⟩))
          all_goals (first | (go_ret; exact ⟨rfl, hgg.out⟩) | (exfalso; simp_all [undef]; done))
        · have HF := Lib.hid (hf.out (by omega))
          have HA := Lib.hid (hfa.out (by omega))
          clear hf hfa
          have f0 : a ≤ P.fill a := HF.out.1
          have f1 : P.fill a ≤ 9223372036854775807 := hfi.out.2
          have f2 : P.fill a / 2 < a := by have := HF.out.2; omega
          have f3 : (bits .and .i64 (P.fill a) (wrap64 (P.fill a + 1)) == 0) = true := by rw [HA.out]; rfl
          go_wp2_with (first | (go_at_call 7; refine (Does_any _ _ _ _).mono ?_; rintro e w' ⟨rfl, rfl⟩) | (go_at_call 9; refine (Fill_any _ IA.out _).mono ?_; rintro e w' ⟨rfl, rfl⟩))
          all_goals (first | (go_ret; exact ⟨rfl, hgg.out⟩) | (exfalso; simp_all [undef]; done))
      · have hb1 : (b == 0) = false := by simp [hb]
        have hb2 : (b != 0) = true := by simp [hb]
        have q0 : (P.does 2 (P.does 4 (P.does 5 a b) b) (P.does 6 a b) != a) = false := by simp [even_div IA.out IB.out hb]
        clear hb
        by_cases ha : a ≤ 0
        · have q5 : (P.fill a == 0) = true := by simp [P.fill, ha]
          go_wp2_with (first | (go_at_call 7; refine (Does_any _ _ _ _).mono ?_; rintro e w' ⟨rfl, rfl⟩) | (go_at_call 9; refine (Fill_any _ IA.out _).mono ?_; rintro e w' ⟨rfl, rfl⟩))
          all_goals (first | (go_ret; exact ⟨rfl, hgg.out⟩) | (exfalso; simp_all [undef]; done))
        · have HF := Lib.hid (hf.out (by omega))
          have HA := Lib.hid (hfa.out (by omega))
          clear hf hfa
          have f0 : a ≤ P.fill a := HF.out.1
          have f1 : P.fill a ≤ 9223372036854775807 := hfi.out.2
          have f2 : P.fill a / 2 < a := by have := HF.out.2; omega
          have f3 : (bits .and .i64 (P.fill a) (wrap64 (P.fill a + 1)) == 0) = true := by rw [HA.out]; rfl
          go_wp2_with (first | (go_at_call 7; refine (Does_any _ _ _ _).mono ?_; rintro e w' ⟨rfl, rfl⟩) | (go_at_call 9; refine (Fill_any _ IA.out _).mono ?_; rintro e w' ⟨rfl, rfl⟩))
          all_goals (first | (go_ret; exact ⟨rfl, hgg.out⟩) | (exfalso; simp_all [undef]; done))
end Go.Proofs.Ytfmcapmaebfppaa.W
