/- Plain laws on the rounds by which the reference counts bits, halves and fills: no program in sight. -/
import Derived.Test.YtglilddlhibogaaGreatDoorPureOp
namespace Go.Proofs.YtglilddlhibogaaGreatDoor.P
open Go.RowKit (wrap64)
set_option linter.unusedSimpArgs false
set_option linter.unusedVariables false

/-- 2 to a power, the first one that no longer fits being 0 -/
def rp (i : Nat) : Int := u (2 ^ i)
theorem rp_eq {i : Nat} (h : i < 64) : rp i = 2 ^ i := by
  unfold rp
  have := pow63 h
  have := pow_pos i
  unfold u; omega
theorem rp_bd (i : Nat) : 0 ≤ rp i ∧ rp i ≤ 18446744073709551615 := by
  unfold rp; have := u_nonneg (2 ^ i); have := u_lt (2 ^ i); omega
theorem rp_next (i : Nat) : IntKind.u64.wrap (rp i * 2) = rp (i + 1) := by
  rw [IntKind.wrap_u64]
  show u (u (2 ^ i) * 2) = u (2 ^ (i + 1))
  rw [u_mul_l, Int.pow_succ]
theorem rp_next' {i : Nat} (h : i + 1 < 64) : rp i * 2 = rp (i + 1) := by
  rw [rp_eq h, rp_eq (by omega), Int.pow_succ]
theorem rp_zero : rp 0 = 1 := rfl

/-- what is left of a number behind i halvings, without its sign -/
def rx (X : Int) (i : Nat) : Int := u X / 2 ^ i
theorem rx_zero (X : Int) : rx X 0 = u X := by unfold rx; rw [Int.pow_zero, Int.ediv_one]
theorem rx_bd (X : Int) (i : Nat) : 0 ≤ rx X i ∧ rx X i ≤ 18446744073709551615 := by
  have hp := pow_pos i
  have h1 := u_nonneg X
  have h2 := u_lt X
  have : u X / 2 ^ i ≤ u X := Int.ediv_le_self _ h1
  exact ⟨Int.ediv_nonneg h1 (by omega), by unfold rx; omega⟩
theorem rx_half (X : Int) (i : Nat) : rx X i / 2 = rx X (i + 1) := by
  unfold rx
  rw [Int.ediv_ediv_of_nonneg (by have := pow_pos i; omega), Int.pow_succ]
theorem rx_bit (X : Int) (i : Nat) : rx X i % 2 = 0 ∨ rx X i % 2 = 1 := by omega

theorem rx_toNat (X : Int) (i : Nat) : rx X i = (((u X).toNat / 2 ^ i : Nat) : Int) := by
  unfold rx
  have h := u_nonneg X
  conv => lhs; rw [← Int.toNat_of_nonneg h]
  push_cast
  rfl

/-- what a code makes of two bits -/
def obit (c : Int) (x y : Nat) : Nat := if c = 7 then x &&& y else if c = 8 then x ||| y else x ^^^ y
/-- what is gathered behind i rounds -/
def rz (c X Y : Int) (i : Nat) : Int := ((obit c (u X).toNat (u Y).toNat % 2 ^ i : Nat) : Int)
theorem rz_zero (c X Y : Int) : rz c X Y 0 = 0 := by unfold rz; rw [Nat.pow_zero, Nat.mod_one]; rfl
theorem rz_bd {c X Y : Int} {i : Nat} (h : i < 64) : 0 ≤ rz c X Y i ∧ rz c X Y i + rp i ≤ 18446744073709551615 := by
  rw [rp_eq h]
  unfold rz
  have h1 : obit c (u X).toNat (u Y).toNat % 2 ^ i < 2 ^ i := Nat.mod_lt _ (Nat.two_pow_pos i)
  have h2 : (2 : Nat) ^ i ≤ 2 ^ 63 := Nat.pow_le_pow_right (by decide) (by omega)
  have h3 : ((2 ^ i : Nat) : Int) = (2 : Int) ^ i := by push_cast; rfl
  omega
theorem obit_div (c : Int) (x y i : Nat) : obit c x y / 2 ^ i = obit c (x / 2 ^ i) (y / 2 ^ i) := by
  unfold obit
  split
  · exact Nat.and_div_two_pow
  · split
    · exact Nat.or_div_two_pow
    · exact Nat.xor_div_two_pow
theorem obit_mod (c : Int) (x y : Nat) : obit c x y % 2 = obit c (x % 2) (y % 2) := by
  unfold obit
  split
  · have := Nat.and_mod_two_pow (a := x) (b := y) (n := 1); simpa using this
  · split
    · have := Nat.or_mod_two_pow (a := x) (b := y) (n := 1); simpa using this
    · have := Nat.xor_mod_two_pow (a := x) (b := y) (n := 1); simpa using this
theorem rz_next (c X Y : Int) (i : Nat) : rz c X Y (i + 1) = rz c X Y i + ((obit c (rx X i % 2).toNat (rx Y i % 2).toNat : Nat) : Int) * 2 ^ i := by
  unfold rz
  rw [Nat.pow_succ, Nat.mod_mul, obit_div, obit_mod, rx_toNat, rx_toNat]
  have e : ∀ n : Nat, ((n : Int) % 2).toNat = n % 2 := fun n => by omega
  rw [e, e]
  push_cast
  rw [Int.mul_comm]
theorem rz_last {c X Y : Int} (hc : c = 7 ∨ c = 8 ∨ c = 9) : wrap64 (rz c X Y 64) = does c X Y := by
  unfold rz
  have hl : obit c (u X).toNat (u Y).toNat % 2 ^ 64 = obit c (u X).toNat (u Y).toNat := by
    refine Nat.mod_eq_of_lt ?_
    unfold obit
    split
    · exact Nat.and_lt_two_pow _ (u_toNat_lt Y)
    · split
      · exact Nat.or_lt_two_pow (u_toNat_lt X) (u_toNat_lt Y)
      · exact Nat.xor_lt_two_pow (u_toNat_lt X) (u_toNat_lt Y)
  rw [hl]
  rcases hc with rfl | rfl | rfl
  · exact (bits_and_nat X Y).symm
  · exact (bits_or_nat X Y).symm
  · exact (bits_xor_nat X Y).symm

/-- a number halved i times, rounded down -/
def ra (X : Int) (i : Nat) : Int := X / 2 ^ i
theorem ra_zero (X : Int) : ra X 0 = X := by unfold ra; rw [Int.pow_zero, Int.ediv_one]
theorem ra_next (X : Int) (i : Nat) : ra X i / 2 = ra X (i + 1) := by
  unfold ra
  rw [Int.ediv_ediv_of_nonneg (by have := pow_pos i; omega), Int.pow_succ]
theorem ra_in {X : Int} (h : In64 X) (i : Nat) : -9223372036854775808 ≤ ra X i ∧ ra X i ≤ 9223372036854775807 := in64_shr h i

/-- ones alone, by rounds -/
theorem fill_of {n : Int} {i : Nat} (h1 : n ≤ 2 ^ i - 1) (h2 : 1 ≤ i → 2 ^ (i - 1) - 1 < n) : fill n = 2 ^ i - 1 := by
  unfold fill
  by_cases h0 : n ≤ 0
  · rw [if_pos h0]
    have hi : i = 0 := by
      by_cases hi : i = 0
      · exact hi
      · have := h2 (by omega); have := pow_pos (i - 1); omega
    subst hi; rfl
  · rw [if_neg h0]
    obtain ⟨b1, b2, b3⟩ := bitLen_int (show 0 < n by omega)
    have hi : 1 ≤ i := by
      by_cases hi : i = 0
      · subst hi; simp at h1; omega
      · omega
    have h3 := h2 hi
    generalize bitLen n.toNat = m at *
    have mono : ∀ {a b : Nat}, a ≤ b → (2 : Int) ^ a ≤ 2 ^ b := fun {a b} hab => by
      have h := Nat.pow_le_pow_right (n := 2) (by decide) hab
      have e1 : ((2 ^ a : Nat) : Int) = (2 : Int) ^ a := by push_cast; rfl
      have e2 : ((2 ^ b : Nat) : Int) = (2 : Int) ^ b := by push_cast; rfl
      omega
    have : m = i := by
      rcases Nat.lt_trichotomy m i with hl | hl | hl
      · have := mono (show m ≤ i - 1 by omega); omega
      · exact hl
      · have := mono (show i ≤ m - 1 by omega); omega
    rw [this]

end Go.Proofs.YtglilddlhibogaaGreatDoor.P
