/- Plain laws on 64-bit numbers, no program in sight: what op.Does, op.Is, op.Fill compute, as functions on Int, and what holds of them. No conditions beyond the ones each theorem states. -/
import Derived.RowKit
import Derived.Laws.Entries
import Derived.Laws.MathBits
import Derived.IntWalk
namespace Go.Proofs.YtglilddlhibogaaGreatDoor.P
open Go.RowKit (wrap64)
set_option linter.unusedSimpArgs false
set_option linter.unusedVariables false

/-- a number of int64 -/
def In64 (x : Int) : Prop := -9223372036854775808 ≤ x ∧ x ≤ 9223372036854775807
instance (x : Int) : Decidable (In64 x) := by unfold In64; exact inferInstance
theorem in64_wrap (x : Int) : In64 (wrap64 x) := by unfold In64 wrap64; omega
theorem wrap_of_in {x : Int} (h : In64 x) : wrap64 x = x := by unfold In64 at h; unfold wrap64; omega
theorem wrap_wrap (x : Int) : wrap64 (wrap64 x) = wrap64 x := wrap_of_in (in64_wrap x)

/-- without its sign -/
def u (x : Int) : Int := x % 18446744073709551616
theorem u_nonneg (x : Int) : 0 ≤ u x := by unfold u; omega
theorem u_lt (x : Int) : u x < 18446744073709551616 := by unfold u; omega
theorem wrap_u (x : Int) : wrap64 (u x) = wrap64 x := by unfold wrap64 u; omega
theorem u_wrap (x : Int) : u (wrap64 x) = u x := by unfold wrap64 u; omega
theorem u_of_nonneg {x : Int} (h : In64 x) (h0 : 0 ≤ x) : u x = x := by unfold u; unfold In64 at h; omega
theorem u_of_neg {x : Int} (h : In64 x) (h0 : x < 0) : u x = x + 18446744073709551616 := by unfold u; unfold In64 at h; omega
theorem wrap_eq_of_u {x y : Int} (h : u x = u y) : wrap64 x = wrap64 y := by rw [← wrap_u x, ← wrap_u y, h]
theorem u_eq_of_wrap {x y : Int} (h : wrap64 x = wrap64 y) : u x = u y := by rw [← u_wrap x, ← u_wrap y, h]
theorem u_add (x y : Int) : u (u x + u y) = u (x + y) := by unfold u; omega
theorem u_add_l (x y : Int) : u (u x + y) = u (x + y) := by unfold u; omega
theorem u_add_r (x y : Int) : u (x + u y) = u (x + y) := by unfold u; omega
theorem u_mul (x y : Int) : u (u x * u y) = u (x * y) := by unfold u; exact (Int.mul_emod x y _).symm
theorem u_mul_l (x y : Int) : u (u x * y) = u (x * y) := by
  rw [← u_mul (u x) y, ← u_mul x y]; congr 2; unfold u; omega
theorem u_mul_r (x y : Int) : u (x * u y) = u (x * y) := by rw [Int.mul_comm, u_mul_l, Int.mul_comm]
theorem u_u (x : Int) : u (u x) = u x := by unfold u; omega
theorem wrap_mul_l (x y : Int) : wrap64 (wrap64 x * y) = wrap64 (x * y) := by
  apply wrap_eq_of_u; rw [← u_mul_l, u_wrap, u_mul_l]
theorem wrap_mul_r (x y : Int) : wrap64 (x * wrap64 y) = wrap64 (x * y) := by rw [Int.mul_comm, wrap_mul_l, Int.mul_comm]
theorem wrap_add_l (x y : Int) : wrap64 (wrap64 x + y) = wrap64 (x + y) := by unfold wrap64; omega
theorem wrap_add_r (x y : Int) : wrap64 (x + wrap64 y) = wrap64 (x + y) := by unfold wrap64; omega
theorem u_eq_zero {x : Int} (h : In64 x) : u x = 0 ↔ x = 0 := by unfold u; unfold In64 at h; omega
theorem u_inj {x y : Int} (hx : In64 x) (hy : In64 y) (h : u x = u y) : x = y := by rw [← wrap_of_in hx, ← wrap_of_in hy]; exact wrap_eq_of_u h

/-- by how much a shift shifts -/
def sh (b : Int) : Nat := (b % 64).toNat
theorem sh_lt (b : Int) : sh b < 64 := by unfold sh; omega
theorem sh_u (b : Int) : u b % 64 = b % 64 := by unfold u; omega

/-- what a code makes of two numbers -/
def does (c a b : Int) : Int :=
  if c = 1 then b else if c = 2 then wrap64 (a + b) else if c = 3 then wrap64 (a - b) else if c = 4 then wrap64 (a * b)
  else if c = 5 then (if u b = 0 then 0 else wrap64 (u a / u b)) else if c = 6 then (if u b = 0 then a else wrap64 (u a % u b))
  else if c = 7 then bits .and .i64 a b else if c = 8 then bits .or .i64 a b else if c = 9 then bits .xor .i64 a b
  else if c = 10 then wrap64 (u a * 2 ^ sh b) else if c = 11 then wrap64 (u a / 2 ^ sh b) else if c = 12 then a / 2 ^ sh b
  else if c = 13 then wrap64 (-a) else 0

/-- what a code asks of two numbers -/
def is (c a b : Int) : Bool :=
  if c = 15 then decide (a = b) else if c = 16 then decide (a ≠ b) else if c = 17 then decide (u a > u b) else if c = 18 then decide (u a ≥ u b)
  else if c = 19 then decide (u a < u b) else if c = 20 then decide (u a ≤ u b) else if c = 21 then decide (a > b) else if c = 22 then decide (a ≥ b)
  else if c = 23 then decide (a < b) else if c = 24 then decide (a ≤ b) else false

/-- does a code ask? -/
def asks (c : Int) : Bool := decide (15 ≤ c) && decide (c ≤ 24)

/-- ones alone -/
def fill (n : Int) : Int := if n ≤ 0 then 0 else 2 ^ bitLen n.toNat - 1

theorem wrap_i64 (x : Int) : IntKind.i64.wrap x = wrap64 x := IntWalk.i64_left x

theorem in64_bits (op : BinOp) (a b : Int) : In64 (bits op .i64 a b) := by
  unfold bits; simp only; rw [wrap_i64]; exact in64_wrap _

theorem pow_pos (k : Nat) : (0 : Int) < 2 ^ k := Int.pow_pos (by decide)

theorem in64_shr {a : Int} (h : In64 a) (k : Nat) : In64 (a / 2 ^ k) := by
  unfold In64 at *
  have hp := pow_pos k
  have h1 : a / 2 ^ k * 2 ^ k ≤ a := Int.ediv_mul_le a (by omega)
  have h2 : a < (a / 2 ^ k + 1) * 2 ^ k := Int.lt_ediv_add_one_mul_self a hp
  generalize (2 : Int) ^ k = p at *
  generalize a / p = q at *
  constructor
  · by_cases hq : q < 0
    · have : (q + 1) * p ≤ (q + 1) := by
        have := Int.mul_le_mul_of_nonpos_left (a := q + 1) (b := p) (c := 1) (by omega) (by omega)
        omega
      omega
    · omega
  · by_cases hq : 0 ≤ q
    · have : q * 1 ≤ q * p := Int.mul_le_mul_of_nonneg_left (by omega) hq
      omega
    · omega

theorem in64_zero : In64 0 := by unfold In64; omega

theorem in64_ite {p : Prop} [Decidable p] {x y : Int} (hx : In64 x) (hy : In64 y) : In64 (if p then x else y) := by split <;> assumption

theorem does_in {c a b : Int} (ha : In64 a) (hb : In64 b) : In64 (does c a b) := by
  unfold does
  repeat' (first | assumption | exact in64_wrap _ | exact in64_zero | exact in64_bits _ _ _ | exact in64_shr ha _ | refine in64_ite ?_ ?_)

theorem fill_in {n : Int} (h : In64 n) : In64 (fill n) := by
  unfold fill
  split
  · exact in64_zero
  · rename_i h0
    unfold In64 at *
    have hb : bitLen n.toNat ≤ 63 := by
      unfold bitLen
      split
      · omega
      · rename_i hn
        have := (Nat.log2_lt hn).2 (show n.toNat < 2 ^ 63 by omega)
        omega
    have h1 : (2 : Int) ^ bitLen n.toNat ≤ 2 ^ 63 := by
      have := Nat.pow_le_pow_right (n := 2) (by decide) hb
      exact_mod_cast this
    have := pow_pos (bitLen n.toNat)
    have h63 : (2 : Int) ^ 63 = 9223372036854775808 := by decide
    omega

/-- 2 to the power of a number's length is above it, and half of it is not. -/
theorem bitLen_int {n : Int} (h : 0 < n) : n < 2 ^ bitLen n.toNat ∧ 2 ^ (bitLen n.toNat - 1) ≤ n ∧ 1 ≤ bitLen n.toNat := by
  have hs := bitLen_spec n.toNat
  have h1 : n.toNat ≠ 0 := by omega
  have h2 := hs.2 h1
  refine ⟨?_, ?_, ?_⟩
  · have : ((n.toNat : Nat) : Int) < ((2 ^ bitLen n.toNat : Nat) : Int) := by exact_mod_cast hs.1
    rw [Int.toNat_of_nonneg (by omega)] at this
    simpa using this
  · have : ((2 ^ (bitLen n.toNat - 1) : Nat) : Int) ≤ ((n.toNat : Nat) : Int) := by exact_mod_cast h2
    rw [Int.toNat_of_nonneg (by omega)] at this
    simpa using this
  · unfold bitLen; rw [if_neg h1]; omega

theorem fill_ge {n : Int} (h : 0 < n) : n ≤ fill n ∧ fill n < 2 * n := by
  unfold fill
  rw [if_neg (by omega)]
  obtain ⟨h1, h2, h3⟩ := bitLen_int h
  have e : (2 : Int) ^ bitLen n.toNat = 2 * 2 ^ (bitLen n.toNat - 1) := by
    conv => lhs; rw [show bitLen n.toNat = (bitLen n.toNat - 1) + 1 by omega]
    rw [Int.pow_succ]; omega
  omega

theorem bitLen_le63 {h : Int} (hh : In64 h) : bitLen h.toNat ≤ 63 := by
  unfold bitLen
  split
  · omega
  · rename_i hn
    unfold In64 at hh
    have := (Nat.log2_lt hn).2 (show h.toNat < 2 ^ 63 by omega)
    omega

theorem pow63 {k : Nat} (hk : k < 64) : (2 : Int) ^ k ≤ 9223372036854775808 := by
  have h1 := Nat.pow_le_pow_right (n := 2) (by decide) (show k ≤ 63 by omega)
  have h2 : ((2 ^ k : Nat) : Int) ≤ ((2 ^ 63 : Nat) : Int) := by omega
  have h3 : ((2 ^ k : Nat) : Int) = (2 : Int) ^ k := by push_cast; rfl
  have h4 : ((2 ^ 63 : Nat) : Int) = 9223372036854775808 := by decide
  omega

/-! ### bits, as natural numbers -/
theorem ofInt_toNat (a : Int) : (BitVec.ofInt 64 a).toNat = (u a).toNat := by
  rw [BitVec.toNat_ofInt]; rfl
theorem bits_and_nat (a b : Int) : bits .and .i64 a b = wrap64 (((u a).toNat &&& (u b).toNat : Nat) : Int) := by
  show IntKind.i64.wrap ((BitVec.ofInt 64 a &&& BitVec.ofInt 64 b).toNat : Int) = _
  rw [wrap_i64, BitVec.toNat_and, ofInt_toNat, ofInt_toNat]
theorem bits_or_nat (a b : Int) : bits .or .i64 a b = wrap64 (((u a).toNat ||| (u b).toNat : Nat) : Int) := by
  show IntKind.i64.wrap ((BitVec.ofInt 64 a ||| BitVec.ofInt 64 b).toNat : Int) = _
  rw [wrap_i64, BitVec.toNat_or, ofInt_toNat, ofInt_toNat]
theorem bits_xor_nat (a b : Int) : bits .xor .i64 a b = wrap64 (((u a).toNat ^^^ (u b).toNat : Nat) : Int) := by
  show IntKind.i64.wrap ((BitVec.ofInt 64 a ^^^ BitVec.ofInt 64 b).toNat : Int) = _
  rw [wrap_i64, BitVec.toNat_xor, ofInt_toNat, ofInt_toNat]

theorem u_toNat_lt (a : Int) : (u a).toNat < 2 ^ 64 := by have := u_lt a; have := u_nonneg a; omega
theorem u_nat {n : Nat} (h : n < 2 ^ 64) : u (n : Int) = n := by unfold u; omega

theorem and_add_or (n : Nat) : ∀ a b : Nat, a < 2 ^ n → (a &&& b) + (a ||| b) = a + b := by
  induction n with
  | zero => intro a b h; have : a = 0 := by omega
            subst this; simp
  | succ n ih =>
    intro a b h
    have h1 := ih (a / 2) (b / 2) (by rw [Nat.pow_succ] at h; omega)
    have e1 : (a &&& b) = 2 * (a / 2 &&& b / 2) + (a &&& b) % 2 := by rw [← Nat.and_div_two]; omega
    have e2 : (a ||| b) = 2 * (a / 2 ||| b / 2) + (a ||| b) % 2 := by rw [← Nat.or_div_two]; omega
    have m1 : (a &&& b) % 2 + (a ||| b) % 2 = a % 2 + b % 2 := by
      have x1 : (a &&& b) % 2 = (a % 2) &&& (b % 2) := by have := Nat.and_mod_two_pow (a := a) (b := b) (n := 1); simpa using this
      have x2 : (a ||| b) % 2 = (a % 2) ||| (b % 2) := by have := Nat.or_mod_two_pow (a := a) (b := b) (n := 1); simpa using this
      rw [x1, x2]
      have ha : a % 2 = 0 ∨ a % 2 = 1 := by omega
      have hb : b % 2 = 0 ∨ b % 2 = 1 := by omega
      rcases ha with ha | ha <;> rcases hb with hb | hb <;> rw [ha, hb] <;> rfl
    omega

/-! ### OpEven -/
theorem even_bits (a b : Int) : does 2 (does 7 a b) (does 8 a b) = does 2 a b := by
  show wrap64 (bits .and .i64 a b + bits .or .i64 a b) = wrap64 (a + b)
  rw [bits_and_nat, bits_or_nat, wrap_add_l, wrap_add_r]
  have h := and_add_or 64 (u a).toNat (u b).toNat (u_toNat_lt a)
  have h' : (((u a).toNat &&& (u b).toNat : Nat) : Int) + (((u a).toNat ||| (u b).toNat : Nat) : Int) = u a + u b := by
    have hu := u_nonneg a; have hv := u_nonneg b
    omega
  rw [h']
  apply wrap_eq_of_u; exact u_add a b

theorem even_xor {a b : Int} (ha : In64 a) : does 9 (does 9 a b) b = a := by
  show bits .xor .i64 (bits .xor .i64 a b) b = a
  rw [bits_xor_nat, bits_xor_nat, u_wrap, u_nat (Nat.xor_lt_two_pow (u_toNat_lt a) (u_toNat_lt b)), Int.toNat_natCast, Nat.xor_assoc, Nat.xor_self, Nat.xor_zero,
    Int.toNat_of_nonneg (u_nonneg a), wrap_u, wrap_of_in ha]

theorem even_sub {a b : Int} (ha : In64 a) : does 3 (does 2 a b) b = a := by
  show wrap64 (wrap64 (a + b) - b) = a
  unfold In64 at ha; unfold wrap64; omega

theorem even_neg {a : Int} (ha : In64 a) : does 13 (does 13 a 0) 0 = a := by
  show wrap64 (-(wrap64 (-a))) = a
  unfold In64 at ha; unfold wrap64; omega

theorem even_div {a b : Int} (ha : In64 a) (hb : In64 b) (h : b ≠ 0) : does 2 (does 4 (does 5 a b) b) (does 6 a b) = a := by
  have hu : u b ≠ 0 := fun e => h ((u_eq_zero hb).1 e)
  show wrap64 (wrap64 ((if u b = 0 then 0 else wrap64 (u a / u b)) * b) + (if u b = 0 then a else wrap64 (u a % u b))) = a
  rw [if_neg hu, if_neg hu, wrap_mul_l, wrap_add_l, wrap_add_r]
  have e : u a = u a / u b * u b + u a % u b := by have := Int.mul_ediv_add_emod (u a) (u b); rw [Int.mul_comm] at this; omega
  have e2 : wrap64 (u a / u b * b + u a % u b) = wrap64 (u a) := by
    conv => rhs; rw [e]
    apply wrap_eq_of_u
    rw [← u_add_l, ← u_mul_r, u_add_l]
  rw [e2, wrap_u, wrap_of_in ha]

theorem even_is (a b : Int) : is 15 a b ≠ is 16 a b ∧ is 17 a b ≠ is 20 a b ∧ is 18 a b ≠ is 19 a b ∧ is 21 a b ≠ is 24 a b ∧ is 22 a b ≠ is 23 a b := by
  refine ⟨?_, ?_, ?_, ?_, ?_⟩ <;> simp [is] <;> omega

theorem fill_and {a : Int} (ha : In64 a) (h : 0 < a) : bits .and .i64 (fill a) (wrap64 (fill a + 1)) = 0 := by
  obtain ⟨h1, h2, h3⟩ := bitLen_int h
  have hk : bitLen a.toNat ≤ 63 := by
    have := (fill_in ha)
    unfold bitLen
    split
    · omega
    · rename_i hn
      unfold In64 at ha
      have := (Nat.log2_lt hn).2 (show a.toNat < 2 ^ 63 by omega)
      omega
  have ef : fill a = 2 ^ bitLen a.toNat - 1 := by unfold fill; rw [if_neg (by omega)]
  generalize bitLen a.toNat = k at *
  rw [ef, bits_and_nat, u_wrap]
  have hle : (2 : Nat) ^ k ≤ 2 ^ 63 := Nat.pow_le_pow_right (by decide) hk
  have hpos : 0 < (2 : Nat) ^ k := Nat.two_pow_pos k
  have c1 : ((2 : Int) ^ k - 1) = ((2 ^ k - 1 : Nat) : Int) := by push_cast [Nat.one_le_two_pow]; rfl
  have c2 : ((2 : Int) ^ k - 1 + 1) = ((2 ^ k : Nat) : Int) := by push_cast; omega
  rw [c2, c1, u_nat (by omega), u_nat (by omega), Int.toNat_natCast, Int.toNat_natCast]
  have : (2 ^ k - 1) &&& 2 ^ k = 0 := by
    rw [Nat.and_comm, Nat.and_two_pow_sub_one_eq_mod]; simp
  rw [this]; exact wrap_of_in in64_zero

end Go.Proofs.YtglilddlhibogaaGreatDoor.P
