/- The walks of package op: what its functions compute. -/
import Derived.Test.YtglilddlhibogaaGreatDoorProg
import Derived.Test.YtglilddlhibogaaGreatDoorPureOp
import Derived.WalkKit
import Derived.Lib.Hide
import Derived.Lib.ItoaNum
import Derived.Test.YtglilddlhibogaaGreatDoorLenShelf
namespace Go.Proofs.YtglilddlhibogaaGreatDoor.W
open Go.RowKit Go.Proofs.YtglilddlhibogaaGreatDoor.P
set_option linter.unusedSimpArgs false
set_option linter.unusedVariables false

theorem ret_int {k : IntKind} {a b : Int} (h : a = b) : Ending.returned (.int k a) = .returned (.int k b) := by rw [h]
theorem ret_bool {a b : Bool} (h : a = b) : Ending.returned (.bool a) = .returned (.bool b) := by rw [h]
theorem wrap_u64 (x : Int) : IntKind.u64.wrap x = u x := IntKind.wrap_u64 x
theorem wrap_wrapu (x : Int) : wrap64 (IntKind.u64.wrap x) = wrap64 x := by rw [wrap_u64]; exact wrap_u x
theorem and63 (x : Int) : bits .and .u64 (u x) 63 = (sh x : Int) := by
 have h := bits_and_u64_nat (u x).toNat 63 (by have := u_lt x; have := u_nonneg x; omega) (by decide)
 rw [Int.toNat_of_nonneg (u_nonneg x)] at h
 have h2 : (u x).toNat &&& 63 = (u x).toNat % 64 := by exact Nat.and_two_pow_sub_one_eq_mod (u x).toNat 6
 rw [show ((63 : Nat) : Int) = 63 from rfl] at h
 rw [h, h2]
 unfold sh
 rw [← sh_u x]
 have := u_nonneg x
 omega

set_option maxHeartbeats 1000000 in
theorem Does_any (c a b : Int) (w : World) :
  Calls Tryz.prog 120 #[.int .i64 c, .int .i64 a, .int .i64 b] w fun e w' => e = .returned (.int .i64 (P.does c a b)) ∧ w = w' := by
 have e1 := wrap_u64 a
 have e2 := wrap_u64 b
 have e3 := and63 b
 have b1 := u_nonneg a
 have b2 := u_nonneg b
 have b3 : u a ≤ 18446744073709551615 := by have := u_lt a; omega
 have b4 : u b ≤ 18446744073709551615 := by have := u_lt b; omega
 have b5 : (0 : Int) ≤ (sh b : Int) := by omega
 have b6 : (sh b : Int) ≤ 64 := by have := sh_lt b; omega
 by_cases hz : u b = 0
 ·have hz1 : (u b == 0) = true := by simp [hz]
  have HZ := Lib.hid hz
  clear hz
  go_enter Tryz.func120, Tryz.ntmps120
  go_wp2
  all_goals (go_ret; refine ⟨ret_int ?_, rfl⟩; clear e1 e2 e3 b1 b2 b3 b4 b5 b6 hz1; have hz := HZ.out; clear HZ; simp only [beq_iff_eq, beq_eq_false_iff_ne, ne_eq] at *; simp [P.does, wrap_wrapu, *])
 ·go_enter Tryz.func120, Tryz.ntmps120
  go_wp2
  all_goals (go_ret; refine ⟨ret_int ?_, rfl⟩; clear e1 e2 e3 b1 b2 b3 b4 b5 b6; simp only [beq_iff_eq, beq_eq_false_iff_ne, ne_eq] at *; simp [P.does, wrap_wrapu, *])

set_option maxHeartbeats 1000000 in
theorem Is_any (c a b : Int) (w : World) :
  Calls Tryz.prog 118 #[.int .i64 c, .int .i64 a, .int .i64 b] w fun e w' => e = .returned (.bool (P.is c a b)) ∧ w = w' := by
 have e1 := wrap_u64 a
 have e2 := wrap_u64 b
 go_enter Tryz.func118, Tryz.ntmps118
 go_wp2
 all_goals (go_ret; refine ⟨ret_bool ?_, rfl⟩; clear e1 e2; simp only [beq_iff_eq, beq_eq_false_iff_ne, ne_eq] at *; simp [P.is, *])
 all_goals (rw [Bool.eq_iff_iff]; simp)

theorem bitLen_same {x : Nat} (h0 : x ≠ 0) (h : x < 2 ^ 64) : Lib.bitLen x = bitLen x := by
 obtain ⟨h1, h2, h3⟩ := Lib.bitLenAux_bounds 64 x h h0
 have h4 := bitLen_spec x
 have h5 := h4.2 h0
 have h6 : 1 ≤ bitLen x := by unfold bitLen; rw [if_neg h0]; omega
 show Lib.bitLenAux 64 x = bitLen x
 generalize Lib.bitLenAux 64 x = k at *
 generalize bitLen x = m at *
 rcases Nat.lt_trichotomy k m with hl | hl | hl
 ·have := Nat.pow_le_pow_right (n := 2) (by decide) (show k ≤ m - 1 by omega)
  omega
 ·exact hl
 ·have := Nat.pow_le_pow_right (n := 2) (by decide) (show m ≤ k - 1 by omega)
  omega

set_option maxHeartbeats 1000000 in
theorem Fill_any (n : Int) (hn : In64 n) (w : World) :
  Calls Tryz.prog 207 #[.int .i64 n] w fun e w' => e = .returned (.int .i64 (P.fill n)) ∧ w = w' := by
 by_cases h0 : n ≤ 0
 ·go_enter Tryz.func207, Tryz.ntmps207
  go_wp2_with fail
  go_ret
  exact ⟨ret_int (by unfold P.fill; rw [if_pos h0]), rfl⟩
 ·have e1 : IntKind.u64.wrap n = n := by rw [wrap_u64, u_of_nonneg hn (by omega)]
  have hl := bitLen_le63 hn
  have hs : Lib.bitLen n.toNat = bitLen n.toNat := bitLen_same (by omega) (by unfold In64 at hn; omega)
  have l1 : n ≤ 18446744073709551615 := by unfold In64 at hn; omega
  have l0 : 0 ≤ n := by omega
  have HN := Lib.hid hn
  have HS := Lib.hid hs
  clear hn hs
  go_enter Tryz.func207, Tryz.ntmps207
  go_wp2_with fail
  refine (Tryz.bits_Len64 _ _ l0 l1).mono ?_
  rintro e w' ⟨rfl, rfl⟩
  rw [HS.out]
  generalize hk : bitLen n.toNat = k at *
  have HK := Lib.hid hk
  clear hk HS
  have k0 : (0 : Int) ≤ (k : Int) := by omega
  have k1 : (k : Int) ≤ 64 := by omega
  go_wp2_with fail
  go_ret
  refine ⟨ret_int ?_, rfl⟩
  have e2 : P.fill n = 2 ^ k - 1 := by unfold P.fill; rw [if_neg (by omega), HK.out]
  have hp := pow_pos k
  have hp2 := pow63 (show k < 64 by omega)
  rw [e2, wrap_u64, wrap_u, wrap_u64]
  rw [show u (2 ^ k) = 2 ^ k from by unfold u; omega]
  exact wrap_of_in (by unfold In64; omega)
end Go.Proofs.YtglilddlhibogaaGreatDoor.W
