/- The walks of the reference's chapter 1: what its functions on numbers compute. -/
import Derived.Test.YtglilddlhibogaaGreatDoorWalkOp
import Derived.Test.YtglilddlhibogaaGreatDoorPureRef
namespace Go.Proofs.YtglilddlhibogaaGreatDoor.W
open Go.RowKit Go.Proofs.YtglilddlhibogaaGreatDoor.P
set_option linter.unusedSimpArgs false
set_option linter.unusedVariables false

set_option maxHeartbeats 1000000 in
theorem RefFill_any (n : Int) (hn : In64 n) (w : World) :
  Calls Tryz.prog 179 #[.int .i64 n] w fun e w' => e = .returned (.int .i64 (P.fill n)) ∧ w = w' := by
 have n1 : n ≤ 9223372036854775807 := hn.2
 clear hn
 go_enter Tryz.func179, Tryz.ntmps179
 go_wp2_with fail
 go_loop [3] (fun f => ∃ i : Nat, i ≤ 63 ∧ f = .int .i64 (2 ^ i - 1) ∧ (1 ≤ i → 2 ^ (i - 1) - 1 < n)) (fun f => (n - intOf f).toNat)
 case atStart => exact ⟨0, by omega, rfl, by omega⟩
 case round =>
  obtain ⟨i, hi, rfl, hl⟩ := hrel
  have hp := pow_pos i
  have hq := pow63 (show i < 64 by omega)
  have HL := Lib.hid hl
  clear hl
  by_cases h : 2 ^ i - 1 < n
  ·have hi2 : i < 63 := by
    by_cases e : i = 63
    ·subst e
     have : (2 : Int) ^ 63 = 9223372036854775808 := by decide
     omega
    ·omega
   have hq2 := pow63 (show i + 1 < 64 by omega)
   rw [Int.pow_succ] at hq2
   go_wp2_with fail
   go_round
   case rel => exact ⟨i + 1, by omega, by rw [Int.pow_succ]; go_num, fun _ => h⟩
   case measure => simp [intOf]; omega
  ·go_wp2_with fail
   go_ret
   exact ⟨ret_int (fill_of (by omega) HL.out).symm, rfl⟩

theorem tdiv_even {x : Int} (h : x % 2 = 0) : x.tdiv 2 = x / 2 := by
 obtain ⟨q, rfl⟩ : ∃ q, x = 2 * q := ⟨x / 2, by omega⟩
 rw [Int.mul_tdiv_cancel_left _ (by decide)]; omega
theorem tmod_even {x : Int} (h : x % 2 = 0) : x.tmod 2 = 0 := by
 have := Int.mul_tdiv_add_tmod x 2
 rw [tdiv_even h] at this; omega
theorem tdiv_odd {x : Int} (h0 : x < 0) (h : ¬ x % 2 = 0) : x.tdiv 2 = x / 2 + 1 := by
 obtain ⟨q, rfl⟩ : ∃ q, x = -q := ⟨-x, by omega⟩
 rw [Int.neg_tdiv, Int.tdiv_eq_ediv_of_nonneg (by omega)]; omega
theorem tmod_odd {x : Int} (h : ¬ x % 2 = 0) : x.tmod 2 ≠ 0 := by
 have := Int.mul_tdiv_add_tmod x 2
 intro e; omega

/-! the ways through, each against op.Does -/
theorem rd {c k a b X : Int} (h : (c == k) = true) (e : X = P.does k a b) : X = P.does c a b := by rw [eq_of_beq h]; exact e
theorem r1 {a b : Int} (h : In64 b) : wrap64 (u b) = P.does 1 a b := by rw [wrap_u, wrap_of_in h]; rfl
theorem r2 (a b : Int) : wrap64 (IntKind.u64.wrap (u a + u b)) = P.does 2 a b := by rw [wrap_wrapu]; exact wrap_eq_of_u (u_add a b)
theorem r3 (a b : Int) : wrap64 (IntKind.u64.wrap (u a - u b)) = P.does 3 a b := by rw [wrap_wrapu]; exact wrap_eq_of_u (by unfold u; omega)
theorem r4 (a b : Int) : wrap64 (IntKind.u64.wrap (u a * u b)) = P.does 4 a b := by rw [wrap_wrapu]; exact wrap_eq_of_u (u_mul a b)
theorem r5z {a b : Int} (h : u b = 0) : 0 = P.does 5 a b := by show 0 = if u b = 0 then 0 else _; rw [if_pos h]
theorem r5 {a b : Int} (h : ¬ u b = 0) : wrap64 (u a / u b) = P.does 5 a b := by show _ = if u b = 0 then 0 else _; rw [if_neg h]
theorem r6z {a b : Int} (ha : In64 a) (h : u b = 0) : wrap64 (u a) = P.does 6 a b := by show _ = if u b = 0 then a else _; rw [if_pos h, wrap_u, wrap_of_in ha]
theorem r6 {a b : Int} (h : ¬ u b = 0) : wrap64 (u a % u b) = P.does 6 a b := by show _ = if u b = 0 then a else _; rw [if_neg h]
theorem r10 (a b : Int) : wrap64 (IntKind.u64.wrap (u a * 2 ^ sh b)) = P.does 10 a b := by rw [wrap_wrapu]; rfl
theorem r11 (a b : Int) : wrap64 (u a / 2 ^ sh b) = P.does 11 a b := rfl
theorem r13 (a b : Int) : wrap64 (IntKind.u64.wrap (-u a)) = P.does 13 a b := by rw [wrap_wrapu]; exact wrap_eq_of_u (by unfold u; omega)
theorem rd0 {c a b : Int} (h1 : (c == 1) = false) (h2 : (c == 2) = false) (h3 : (c == 3) = false) (h4 : (c == 4) = false) (h5 : (c == 5) = false) (h6 : (c == 6) = false)
  (h7 : (c == 7) = false) (h8 : (c == 8) = false) (h9 : (c == 9) = false) (h10 : (c == 10) = false) (h11 : (c == 11) = false) (h12 : (c == 12) = false) (h13 : (c == 13) = false) :
  0 = P.does c a b := by
 simp only [beq_eq_false_iff_ne, ne_eq] at *
 unfold P.does
 simp only [*, if_false]

/-- what the first loop leaves -/
theorem two_pow_lt {k : Nat} {b : Int} (h : k < sh b) : (2 : Int) ^ k * 2 ≤ 18446744073709551615 := by
 have h1 := sh_lt b
 have h2 := pow63 (show k + 1 < 64 by omega)
 rw [Int.pow_succ] at h2
 omega

set_option maxHeartbeats 2000000 in
theorem RefDoes_plain (c a b : Int) (c7 : (c == 7) = false) (c8 : (c == 8) = false) (c9 : (c == 9) = false) (c12 : (c == 12) = false) (ha : In64 a) (hb : In64 b) (w : World) :
  Calls Tryz.prog 156 #[.int .i64 c, .int .i64 a, .int .i64 b] w fun e w' => e = .returned (.int .i64 (P.does c a b)) ∧ w = w' := by
 have e1 := wrap_u64 a
 have e2 := wrap_u64 b
 have e3 : u b % 64 = (sh b : Int) := by rw [sh_u]; unfold sh; omega
 have b1 := u_nonneg a
 have b2 := u_nonneg b
 have b3 : u a ≤ 18446744073709551615 := by have := u_lt a; omega
 have b4 : u b ≤ 18446744073709551615 := by have := u_lt b; omega
 have b6 : sh b ≤ 63 := by have := sh_lt b; omega
 have HAI := Lib.hid ha
 have HBI := Lib.hid hb
 clear ha hb
 go_enter Tryz.func156, Tryz.ntmps156
 go_wp2_with fail
 go_loop [10, 24] (fun p i => ∃ k : Nat, k ≤ sh b ∧ i = .int .u64 k ∧ p = .int .u64 (2 ^ k)) (fun _ i => sh b - (intOf i).toNat)
 case atStart => exact ⟨0, by omega, rfl, rfl⟩
 case round =>
  obtain ⟨k, hk, rfl, rfl⟩ := hrel
  have hp := pow_pos k
  by_cases h : k < sh b
  ·have hq := two_pow_lt h
   go_wp2_with fail
   go_round
   case rel => exact ⟨k + 1, by omega, by go_num, by rw [Int.pow_succ]⟩
   case measure => simp [intOf]; omega
  ·obtain rfl : k = sh b := by omega
   have h63 := pow63 (show sh b < 64 by omega)
   have H63 := Lib.hid h63
   by_cases hz : u b = 0
   ·have hz1 : (u b == 0) = true := by simp [hz]
    have hz2 : (u b != 0) = false := by simp [hz]
    have HZ := Lib.hid hz
    clear hz
    go_wp2_with fail
    all_goals (go_ret; refine ⟨ret_int ?_, rfl⟩)
    all_goals (first | exact rd (k := 1) (by assumption) (r1 HBI.out) | exact rd (k := 2) (by assumption) (r2 a b) | exact rd (k := 3) (by assumption) (r3 a b) | exact rd (k := 4) (by assumption) (r4 a b) | exact rd (k := 10) (by assumption) (r10 a b) | exact rd (k := 11) (by assumption) (r11 a b) | exact rd (k := 13) (by assumption) (r13 a b) | exact rd (k := 5) (by assumption) (r5z HZ.out) | exact rd (k := 6) (by assumption) (r6z HAI.out HZ.out) | exact rd0 (by assumption) (by assumption) (by assumption) (by assumption) (by assumption) (by assumption) c7 c8 c9 (by assumption) (by assumption) c12 (by assumption))
   ·have hz2 : (u b != 0) = true := by simp [hz]
    have hz1 : (u b == 0) = false := by simp [hz]
    go_wp2_with fail
    all_goals (go_ret; refine ⟨ret_int ?_, rfl⟩)
    all_goals (first | exact rd (k := 1) (by assumption) (r1 HBI.out) | exact rd (k := 2) (by assumption) (r2 a b) | exact rd (k := 3) (by assumption) (r3 a b) | exact rd (k := 4) (by assumption) (r4 a b) | exact rd (k := 10) (by assumption) (r10 a b) | exact rd (k := 11) (by assumption) (r11 a b) | exact rd (k := 13) (by assumption) (r13 a b) | exact rd (k := 5) (by assumption) (r5 hz) | exact rd (k := 6) (by assumption) (r6 hz) | exact rd0 (by assumption) (by assumption) (by assumption) (by assumption) (by assumption) (by assumption) c7 c8 c9 (by assumption) (by assumption) c12 (by assumption))

set_option maxHeartbeats 2000000 in
theorem RefDoes_arsh (a b : Int) (ha : In64 a) (w : World) :
  Calls Tryz.prog 156 #[.int .i64 12, .int .i64 a, .int .i64 b] w fun e w' => e = .returned (.int .i64 (P.does 12 a b)) ∧ w = w' := by
 have e1 := wrap_u64 a
 have e2 := wrap_u64 b
 have e3 : u b % 64 = (sh b : Int) := by rw [sh_u]; unfold sh; omega
 have b1 := u_nonneg a
 have b2 := u_nonneg b
 have b3 : u a ≤ 18446744073709551615 := by have := u_lt a; omega
 have b4 : u b ≤ 18446744073709551615 := by have := u_lt b; omega
 have b6 : sh b ≤ 63 := by have := sh_lt b; omega
 have HA := Lib.hid ha
 clear ha
 go_enter Tryz.func156, Tryz.ntmps156
 go_wp2_with fail
 go_loop [10, 24] (fun p i => ∃ k : Nat, k ≤ sh b ∧ i = .int .u64 k ∧ p = .int .u64 (2 ^ k)) (fun _ i => sh b - (intOf i).toNat)
 case atStart => exact ⟨0, by omega, rfl, rfl⟩
 case round =>
  obtain ⟨k, hk, rfl, rfl⟩ := hrel
  have hp := pow_pos k
  by_cases h : k < sh b
  ·have hq := two_pow_lt h
   go_wp2_with fail
   go_round
   case rel => exact ⟨k + 1, by omega, by go_num, by rw [Int.pow_succ]⟩
   case measure => simp [intOf]; omega
  ·obtain rfl : k = sh b := by omega
   clear h hp hk
   go_wp2_with fail
   go_loop [1, 112] (fun x i => ∃ k : Nat, k ≤ sh b ∧ i = .int .u64 k ∧ x = .int .i64 (ra a k)) (fun _ i => sh b - (intOf i).toNat)
   case atStart => exact ⟨0, by omega, rfl, by rw [ra_zero]⟩
   case round =>
    obtain ⟨k, hk, rfl, rfl⟩ := hrel
    have r1 := (ra_in HA.out k).1
    have r2 := (ra_in HA.out k).2
    have rn := ra_next a k
    have RN := Lib.hid rn
    clear rn
    by_cases h : k < sh b
    ·by_cases h0 : ra a k < 0
     ·by_cases hm : ra a k % 2 = 0
      ·have t1 : (ra a k).tdiv 2 = ra a (k + 1) := by rw [← RN.out, tdiv_even hm]
       have t2 : ((ra a k).tmod 2 != 0) = false := by rw [tmod_even hm]; rfl
       have t3 := ra_in HA.out (k + 1)
       go_wp2_with fail
       go_round
       case rel => exact ⟨k + 1, by omega, by go_num, rfl⟩
       case measure => simp [intOf]; omega
      ·have t1 : (ra a k).tdiv 2 = ra a (k + 1) + 1 := by rw [← RN.out, tdiv_odd h0 hm]
       have t2 : ((ra a k).tmod 2 != 0) = true := by rw [bne_iff_ne]; exact tmod_odd hm
       have t3 := ra_in HA.out (k + 1)
       have t4 : ra a (k + 1) ≤ -1 := by have := RN.out; omega
       go_wp2_with fail
       go_round
       case rel => exact ⟨k + 1, by omega, by go_num, by go_num⟩
       case measure => simp [intOf]; omega
     ·go_wp2_with fail
      go_round
      case rel => exact ⟨k + 1, by omega, by go_num, by rw [← RN.out]⟩
      case measure => simp [intOf]; omega
    ·obtain rfl : k = sh b := by omega
     go_wp2_with fail
     go_ret
     exact ⟨rfl, rfl⟩

theorem obit_vals (c : Int) (x y : Nat) : obit c x y = if c = 7 then x &&& y else if c = 8 then x ||| y else x ^^^ y := rfl

def BRel (c a b : Int) (x y z p i : Value) : Prop :=
 ∃ k : Nat, k ≤ 64 ∧ i = .int .i64 k ∧ x = .int .u64 (rx a k) ∧ y = .int .u64 (rx b k) ∧ z = .int .u64 (rz c a b k) ∧ p = .int .u64 (rp k)

set_option maxHeartbeats 4000000 in
theorem RefDoes_bits (c a b : Int) (hc : c = 7 ∨ c = 8 ∨ c = 9) (w : World) :
  Calls Tryz.prog 156 #[.int .i64 c, .int .i64 a, .int .i64 b] w fun e w' => e = .returned (.int .i64 (P.does c a b)) ∧ w = w' := by
 have e1 := wrap_u64 a
 have e2 := wrap_u64 b
 have e3 : u b % 64 = (sh b : Int) := by rw [sh_u]; unfold sh; omega
 have b1 := u_nonneg a
 have b2 := u_nonneg b
 have b3 : u a ≤ 18446744073709551615 := by have := u_lt a; omega
 have b4 : u b ≤ 18446744073709551615 := by have := u_lt b; omega
 have b6 : sh b ≤ 63 := by have := sh_lt b; omega
 obtain ⟨d, hd⟩ : ∃ d : Int, d = c := ⟨c, rfl⟩
 have LAST := Lib.hid (show wrap64 (rz d a b 64) = P.does c a b by rw [hd]; exact rz_last (X := a) (Y := b) hc)
 have HD := Lib.hid hd
 clear hd
 rcases hc with rfl | rfl | rfl
 all_goals
  go_enter Tryz.func156, Tryz.ntmps156
  go_wp2_with fail
  go_loop [10, 24] (fun p i => ∃ k : Nat, k ≤ sh b ∧ i = .int .u64 k ∧ p = .int .u64 (2 ^ k)) (fun _ i => sh b - (intOf i).toNat)
  case atStart => exact ⟨0, by omega, rfl, rfl⟩
  case round =>
   obtain ⟨k, hk, rfl, rfl⟩ := hrel
   have hp := pow_pos k
   by_cases h : k < sh b
   ·have hq := two_pow_lt h
    go_wp2_with fail
    go_round
    case rel => exact ⟨k + 1, by omega, by go_num, by rw [Int.pow_succ]⟩
    case measure => simp [intOf]; omega
   ·obtain rfl : k = sh b := by omega
    clear h hp hk
    go_wp2_with fail
    go_loop [7, 8, 11, 12, 66] (fun x y z p i => BRel d a b x y z p i) (fun _ _ _ _ i => 64 - (intOf i).toNat)
    case atStart => exact ⟨0, by omega, rfl, by rw [rx_zero], by rw [rx_zero], by rw [rz_zero], rfl⟩
    case round =>
     obtain ⟨i, hi, rfl, rfl, rfl, rfl, rfl⟩ := hrel
     clear e1 e2 e3 b1 b2 b3 b4 b6
     have x1 := rx_bd a i
     have x2 := rx_bd b i
     by_cases h : i < 64
     ·have x3 := rz_bd (c := d) (X := a) (Y := b) h
      have x4 := rp_bd i
      have x5 := rp_next i
      have m1 : max (0 : Int) 0 = 0 := rfl
      have m2 : max (0 : Int) 1 = 1 := rfl
      have m3 : max (1 : Int) 0 = 1 := rfl
      have m4 : max (1 : Int) 1 = 1 := rfl
      have HX := Lib.hid (rx_half a i)
      have HY := Lib.hid (rx_half b i)
      have HZ := Lib.hid (rz_next d a b i)
      have HP := Lib.hid (rp_eq h)
      rcases rx_bit a i with xb | xb <;> rcases rx_bit b i with yb | yb
      all_goals
       have HXB := Lib.hid xb
       have HYB := Lib.hid yb
       go_wp2_with fail
       go_round
       case rel =>
        refine ⟨i + 1, by omega, by go_num, ?_, ?_, ?_, ?_⟩
        all_goals (first | rw [HX.out] | rw [HY.out] | rw [HZ.out, HD.out, HXB.out, HYB.out, ← HP.out]; simp [obit] | rfl)
       case measure => simp [intOf]; omega
     ·obtain rfl : i = 64 := by omega
      go_wp2_with fail
      go_ret
      exact ⟨ret_int LAST.out, rfl⟩

theorem RefDoes_any (c a b : Int) (ha : In64 a) (hb : In64 b) (w : World) :
  Calls Tryz.prog 156 #[.int .i64 c, .int .i64 a, .int .i64 b] w fun e w' => e = .returned (.int .i64 (P.does c a b)) ∧ w = w' := by
 by_cases h : c = 7 ∨ c = 8 ∨ c = 9
 ·exact RefDoes_bits c a b h w
 ·by_cases h2 : c = 12
  ·subst h2; exact RefDoes_arsh a b ha w
  ·exact RefDoes_plain c a b (by simp; omega) (by simp; omega) (by simp; omega) (by simp; omega) ha hb w

theorem asks_of (c : Int) : P.asks c = (decide (15 ≤ c) && decide (c ≤ 24)) := rfl

set_option maxHeartbeats 1000000 in
theorem In_any (n low high : Int) (w : World) :
  Calls Tryz.prog 50 #[.int .i64 n, .int .i64 low, .int .i64 high] w fun e w' => e = .returned (.bool (decide (low ≤ n) && decide (n ≤ high))) ∧ w = w' := by
 go_enter Tryz.func50, Tryz.ntmps50
 go_wp2_with fail
 all_goals go_ret
 all_goals (refine ⟨ret_bool ?_, rfl⟩; simp [*]; try (intros; omega))

set_option maxHeartbeats 1000000 in
theorem RefAsks_any (c : Int) (w : World) :
  Calls Tryz.prog 58 #[.int .i64 c] w fun e w' => e = .returned (.bool (P.asks c)) ∧ w = w' := by
 go_enter Tryz.func58, Tryz.ntmps58
 go_wp2_with ((go_at_call 50; refine (In_any _ _ _ _).mono ?_; rintro e w' ⟨rfl, rfl⟩))
 go_ret
 exact ⟨rfl, rfl⟩

set_option maxHeartbeats 1000000 in
theorem Asks_any (c : Int) (w : World) :
  Calls Tryz.prog 68 #[.int .i64 c] w fun e w' => e = .returned (.bool (P.asks c)) ∧ w = w' := by
 go_enter Tryz.func68, Tryz.ntmps68
 go_wp2_with fail
 all_goals go_ret
 all_goals (refine ⟨ret_bool ?_, rfl⟩; simp [P.asks, *]; try (intros; omega))

theorem idx0 (x0 x1 x2 x3 x4 x5 x6 x7 x8 x9 : Bool) (w : World) : (Instr.index 297 (.agg #[.bool x0, .bool x1, .bool x2, .bool x3, .bool x4, .bool x5, .bool x6, .bool x7, .bool x8, .bool x9]) (.int .i64 0)).run Tryz.prog w = .ok (.bool x0) w := by kernel_rfl
theorem idx1 (x0 x1 x2 x3 x4 x5 x6 x7 x8 x9 : Bool) (w : World) : (Instr.index 297 (.agg #[.bool x0, .bool x1, .bool x2, .bool x3, .bool x4, .bool x5, .bool x6, .bool x7, .bool x8, .bool x9]) (.int .i64 1)).run Tryz.prog w = .ok (.bool x1) w := by kernel_rfl
theorem idx2 (x0 x1 x2 x3 x4 x5 x6 x7 x8 x9 : Bool) (w : World) : (Instr.index 297 (.agg #[.bool x0, .bool x1, .bool x2, .bool x3, .bool x4, .bool x5, .bool x6, .bool x7, .bool x8, .bool x9]) (.int .i64 2)).run Tryz.prog w = .ok (.bool x2) w := by kernel_rfl
theorem idx3 (x0 x1 x2 x3 x4 x5 x6 x7 x8 x9 : Bool) (w : World) : (Instr.index 297 (.agg #[.bool x0, .bool x1, .bool x2, .bool x3, .bool x4, .bool x5, .bool x6, .bool x7, .bool x8, .bool x9]) (.int .i64 3)).run Tryz.prog w = .ok (.bool x3) w := by kernel_rfl
theorem idx4 (x0 x1 x2 x3 x4 x5 x6 x7 x8 x9 : Bool) (w : World) : (Instr.index 297 (.agg #[.bool x0, .bool x1, .bool x2, .bool x3, .bool x4, .bool x5, .bool x6, .bool x7, .bool x8, .bool x9]) (.int .i64 4)).run Tryz.prog w = .ok (.bool x4) w := by kernel_rfl
theorem idx5 (x0 x1 x2 x3 x4 x5 x6 x7 x8 x9 : Bool) (w : World) : (Instr.index 297 (.agg #[.bool x0, .bool x1, .bool x2, .bool x3, .bool x4, .bool x5, .bool x6, .bool x7, .bool x8, .bool x9]) (.int .i64 5)).run Tryz.prog w = .ok (.bool x5) w := by kernel_rfl
theorem idx6 (x0 x1 x2 x3 x4 x5 x6 x7 x8 x9 : Bool) (w : World) : (Instr.index 297 (.agg #[.bool x0, .bool x1, .bool x2, .bool x3, .bool x4, .bool x5, .bool x6, .bool x7, .bool x8, .bool x9]) (.int .i64 6)).run Tryz.prog w = .ok (.bool x6) w := by kernel_rfl
theorem idx7 (x0 x1 x2 x3 x4 x5 x6 x7 x8 x9 : Bool) (w : World) : (Instr.index 297 (.agg #[.bool x0, .bool x1, .bool x2, .bool x3, .bool x4, .bool x5, .bool x6, .bool x7, .bool x8, .bool x9]) (.int .i64 7)).run Tryz.prog w = .ok (.bool x7) w := by kernel_rfl
theorem idx8 (x0 x1 x2 x3 x4 x5 x6 x7 x8 x9 : Bool) (w : World) : (Instr.index 297 (.agg #[.bool x0, .bool x1, .bool x2, .bool x3, .bool x4, .bool x5, .bool x6, .bool x7, .bool x8, .bool x9]) (.int .i64 8)).run Tryz.prog w = .ok (.bool x8) w := by kernel_rfl
theorem idx9 (x0 x1 x2 x3 x4 x5 x6 x7 x8 x9 : Bool) (w : World) : (Instr.index 297 (.agg #[.bool x0, .bool x1, .bool x2, .bool x3, .bool x4, .bool x5, .bool x6, .bool x7, .bool x8, .bool x9]) (.int .i64 9)).run Tryz.prog w = .ok (.bool x9) w := by kernel_rfl

set_option maxHeartbeats 1000000 in
theorem RefIs_any (c a b : Int) (w : World) :
  Calls Tryz.prog 121 #[.int .i64 c, .int .i64 a, .int .i64 b] w fun e w' => e = .returned (.bool (P.is c a b)) ∧ w = w' := by
 have e1 := wrap_u64 a
 have e2 := wrap_u64 b
 by_cases h : P.asks c = true
 ·have h' : c = 15 ∨ c = 16 ∨ c = 17 ∨ c = 18 ∨ c = 19 ∨ c = 20 ∨ c = 21 ∨ c = 22 ∨ c = 23 ∨ c = 24 := by
   simp only [P.asks, Bool.and_eq_true, decide_eq_true_eq] at h; omega
  have i0 := idx0; have i1 := idx1; have i2 := idx2; have i3 := idx3; have i4 := idx4; have i5 := idx5; have i6 := idx6; have i7 := idx7; have i8 := idx8; have i9 := idx9
  rcases h' with rfl | rfl | rfl | rfl | rfl | rfl | rfl | rfl | rfl | rfl
  all_goals
   go_enter Tryz.func121, Tryz.ntmps121
   go_wp2_with ((go_at_call 58; refine (RefAsks_any _ _).mono ?_; rintro e w' ⟨rfl, rfl⟩))
   go_ret
   refine ⟨ret_bool ?_, rfl⟩
   clear i0 i1 i2 i3 i4 i5 i6 i7 i8 i9 e1 e2 h
   simp [P.is]
  all_goals (rw [Bool.eq_iff_iff]; simp)
 ·have h0 : P.asks c = false := by simpa using h
  have h1 := Lib.hid h
  clear h
  go_enter Tryz.func121, Tryz.ntmps121
  go_wp2_with ((go_at_call 58; refine (RefAsks_any _ _).mono ?_; rintro e w' ⟨rfl, rfl⟩))
  go_ret
  refine ⟨ret_bool ?_, rfl⟩
  have h2 : ¬ (15 ≤ c ∧ c ≤ 24) := by have := h1.out; simpa [P.asks] using this
  unfold P.is
  repeat rw [if_neg (by omega)]

end Go.Proofs.YtglilddlhibogaaGreatDoor.W
