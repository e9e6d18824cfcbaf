/- Plain laws on bounds, no program in sight: what package bound computes, as functions on Int, and that what is between stays between. Conditions: the numbers are int64's (In64), the bounds have their ends in order. -/
import Derived.Test.YtglilddlhibogaaGreatDoorPureOp
namespace Go.Proofs.YtglilddlhibogaaGreatDoor.P
open Go.RowKit (wrap64)
set_option linter.unusedSimpArgs false
set_option linter.unusedVariables false

/-- a bound -/
structure B where
  lo : Int
  hi : Int
deriving DecidableEq

def B.Has (b : B) (n : Int) : Prop := b.lo ≤ n ∧ n ≤ b.hi
instance (b : B) (n : Int) : Decidable (b.Has n) := by unfold B.Has; exact inferInstance
/-- its ends are int64's -/
def B.In (b : B) : Prop := In64 b.lo ∧ In64 b.hi
def B.Ok (b : B) : Prop := In64 b.lo ∧ In64 b.hi ∧ b.lo ≤ b.hi
theorem B.Ok.in {b : B} (h : b.Ok) : b.In := ⟨h.1, h.2.1⟩

def ball : B := ⟨-9223372036854775808, 9223372036854775807⟩
def bone (n : Int) : B := ⟨n, n⟩
def bnil : B := ⟨0, 0⟩
def bjoin (a b : B) : B := ⟨min a.lo b.lo, max a.hi b.hi⟩
def bmeet (a b : B) : B × Bool :=
  if max a.lo b.lo > min a.hi b.hi then (bnil, false) else (⟨max a.lo b.lo, min a.hi b.hi⟩, true)
def bsum (a b : Int) : Int × Bool := (wrap64 (a + b), decide (wrap64 (a + b) > a) == decide (b > 0))
def bless (a b : Int) : Int × Bool := (wrap64 (a - b), decide (wrap64 (a - b) < a) == decide (b > 0))
def bpair (low : Int) (a : Bool) (high : Int) (b : Bool) : B := if !a || !b then ball else ⟨low, high⟩
def small (n : Int) : Bool := decide (-2147483648 ≤ n ∧ n ≤ 2147483648)
def btimes (a b : B) : B :=
  if small a.lo && small a.hi && small b.lo && small b.hi then
    bjoin (bjoin (bjoin (bone (a.lo * b.lo)) (bone (a.lo * b.hi))) (bone (a.hi * b.lo))) (bone (a.hi * b.hi))
  else ball
def bleft (a : B) (k : Nat) : B :=
  if wrap64 (a.lo * 2 ^ k) / 2 ^ k ≠ a.lo ∨ wrap64 (a.hi * 2 ^ k) / 2 ^ k ≠ a.hi then ball else ⟨wrap64 (a.lo * 2 ^ k), wrap64 (a.hi * 2 ^ k)⟩
def bright (a b : B) : B :=
  if b.lo ≠ b.hi then (if 0 ≤ a.lo then ⟨0, a.hi⟩ else ball)
  else if sh b.lo = 0 then a
  else if 0 ≤ a.lo then ⟨a.lo / 2 ^ sh b.lo, a.hi / 2 ^ sh b.lo⟩
  else ⟨0, 9223372036854775807 / 2 ^ (sh b.lo - 1)⟩
def bsigned (a b : B) : B :=
  if b.lo = b.hi then ⟨a.lo / 2 ^ sh b.lo, a.hi / 2 ^ sh b.lo⟩
  else if 0 ≤ a.lo then ⟨0, a.hi⟩ else if a.hi < 0 then ⟨a.lo, -1⟩ else a
def bbit (c : Int) (a b : B) : B :=
  if c = 7 ∧ 0 ≤ a.lo ∧ 0 ≤ b.lo then ⟨0, min a.hi b.hi⟩
  else if c = 7 ∧ 0 ≤ a.lo then ⟨0, a.hi⟩
  else if c = 7 ∧ 0 ≤ b.lo then ⟨0, b.hi⟩
  else if c = 7 ∨ a.lo < 0 ∨ b.lo < 0 then ball
  else if c = 8 then ⟨max a.lo b.lo, fill (max a.hi b.hi)⟩
  else ⟨0, fill (max a.hi b.hi)⟩
def bdiv (c : Int) (a b : B) : B :=
  if a.lo < 0 ∨ b.lo < 0 then ball else if b.lo = 0 then ⟨0, a.hi⟩
  else if c = 5 then ⟨a.lo / b.hi, a.hi / b.lo⟩ else ⟨0, min a.hi (b.hi - 1)⟩
def badd (a b : B) : B := bpair (bsum a.lo b.lo).1 ((bsum a.lo b.lo).2 || decide (b.lo = 0)) (bsum a.hi b.hi).1 ((bsum a.hi b.hi).2 || decide (b.hi = 0))
def bsub (a b : B) : B := bpair (bless a.lo b.hi).1 ((bless a.lo b.hi).2 || decide (b.hi = 0)) (bless a.hi b.lo).1 ((bless a.hi b.lo).2 || decide (b.lo = 0))
/-- between which numbers it is what a code makes of numbers -/
def bdoes (c : Int) (a b : B) : B :=
  if c = 1 then b else if c = 2 then badd a b else if c = 3 then bsub a b else if c = 4 then btimes a b
  else if c = 5 ∨ c = 6 then bdiv c a b else if c = 7 ∨ c = 8 ∨ c = 9 then bbit c a b
  else if c = 10 then (if b.lo ≠ b.hi then ball else bleft a (sh b.lo))
  else if c = 11 then bright a b else if c = 12 then bsigned a b
  else if c = 13 then (if a.lo = -9223372036854775808 then ball else ⟨-a.hi, -a.lo⟩)
  else ball

/-! ### what they are -/
theorem bsum_ok {a b : Int} (ha : In64 a) (hb : In64 b) : ((bsum a b).2 || decide (b = 0)) = decide (In64 (a + b)) := by
  have hw : wrap64 (a + b) = a + b ∧ In64 (a + b) ∨ wrap64 (a + b) = a + b - 18446744073709551616 ∧ 9223372036854775807 < a + b ∨ wrap64 (a + b) = a + b + 18446744073709551616 ∧ a + b < -9223372036854775808 := by
    unfold In64 at *; unfold wrap64; omega
  rw [Bool.eq_iff_iff]
  simp only [bsum, Bool.or_eq_true, beq_iff_eq, decide_eq_decide, decide_eq_true_eq]
  generalize wrap64 (a + b) = c at *
  unfold In64 at *
  omega
theorem bless_ok {a b : Int} (ha : In64 a) (hb : In64 b) : ((bless a b).2 || decide (b = 0)) = decide (In64 (a - b)) := by
  have hw : wrap64 (a - b) = a - b ∧ In64 (a - b) ∨ wrap64 (a - b) = a - b - 18446744073709551616 ∧ 9223372036854775807 < a - b ∨ wrap64 (a - b) = a - b + 18446744073709551616 ∧ a - b < -9223372036854775808 := by
    unfold In64 at *; unfold wrap64; omega
  rw [Bool.eq_iff_iff]
  simp only [bless, Bool.or_eq_true, beq_iff_eq, decide_eq_decide, decide_eq_true_eq]
  generalize wrap64 (a - b) = c at *
  unfold In64 at *
  omega

theorem badd_eq {a b : B} (ha : a.In) (hb : b.In) :
    badd a b = if In64 (a.lo + b.lo) ∧ In64 (a.hi + b.hi) then ⟨a.lo + b.lo, a.hi + b.hi⟩ else ball := by
  unfold badd bpair
  rw [bsum_ok ha.1 hb.1, bsum_ok ha.2 hb.2]
  by_cases h1 : In64 (a.lo + b.lo) <;> by_cases h2 : In64 (a.hi + b.hi) <;> simp [h1, h2, bsum, wrap_of_in]
theorem bsub_eq {a b : B} (ha : a.In) (hb : b.In) :
    bsub a b = if In64 (a.lo - b.hi) ∧ In64 (a.hi - b.lo) then ⟨a.lo - b.hi, a.hi - b.lo⟩ else ball := by
  unfold bsub bpair
  rw [bless_ok ha.1 hb.2, bless_ok ha.2 hb.1]
  by_cases h1 : In64 (a.lo - b.hi) <;> by_cases h2 : In64 (a.hi - b.lo) <;> simp [h1, h2, bless, wrap_of_in]

theorem has_all {n : Int} (h : In64 n) : ball.Has n := h
theorem ball_in : ball.In := by unfold ball B.In In64; simp
theorem ball_ok : ball.Ok := by unfold ball B.Ok In64; simp
theorem bone_ok {n : Int} (h : In64 n) : (bone n).Ok := ⟨h, h, Int.le_refl _⟩

theorem in64_of_between {a b n : Int} (ha : In64 a) (hb : In64 b) (h1 : a ≤ n) (h2 : n ≤ b) : In64 n := by unfold In64 at *; omega

/-! ### sound -/
theorem badd_sound {a b : B} {x y : Int} (ha : a.Ok) (hb : b.Ok) (hx : a.Has x) (hy : b.Has y) : (badd a b).Has (does 2 x y) := by
  rw [badd_eq ha.in hb.in]
  unfold B.Has at *
  split
  · rename_i h
    show _ ≤ wrap64 (x + y) ∧ wrap64 (x + y) ≤ _
    rw [wrap_of_in (in64_of_between h.1 h.2 (by omega) (by omega))]
    exact ⟨by simp only; omega, by simp only; omega⟩
  · exact has_all (in64_wrap _)
theorem bsub_sound {a b : B} {x y : Int} (ha : a.Ok) (hb : b.Ok) (hx : a.Has x) (hy : b.Has y) : (bsub a b).Has (does 3 x y) := by
  rw [bsub_eq ha.in hb.in]
  unfold B.Has at *
  split
  · rename_i h
    show _ ≤ wrap64 (x - y) ∧ wrap64 (x - y) ≤ _
    rw [wrap_of_in (in64_of_between h.1 h.2 (by omega) (by omega))]
    exact ⟨by simp only; omega, by simp only; omega⟩
  · exact has_all (in64_wrap _)

/-- a product lies between the products of the ends -/
theorem prod_between {al ah bl bh x y : Int} (h1 : al ≤ x) (h2 : x ≤ ah) (h3 : bl ≤ y) (h4 : y ≤ bh) :
    min (min (min (al * bl) (al * bh)) (ah * bl)) (ah * bh) ≤ x * y ∧ x * y ≤ max (max (max (al * bl) (al * bh)) (ah * bl)) (ah * bh) := by
  have e1 : (x * bl ≤ x * y ∧ x * y ≤ x * bh) ∨ (x * bh ≤ x * y ∧ x * y ≤ x * bl) := by
    by_cases hx : 0 ≤ x
    · exact .inl ⟨Int.mul_le_mul_of_nonneg_left h3 hx, Int.mul_le_mul_of_nonneg_left h4 hx⟩
    · exact .inr ⟨Int.mul_le_mul_of_nonpos_left (by omega) h4, Int.mul_le_mul_of_nonpos_left (by omega) h3⟩
  have e2 : ∀ c : Int, (al * c ≤ x * c ∧ x * c ≤ ah * c) ∨ (ah * c ≤ x * c ∧ x * c ≤ al * c) := by
    intro c
    by_cases hc : 0 ≤ c
    · exact .inl ⟨Int.mul_le_mul_of_nonneg_right h1 hc, Int.mul_le_mul_of_nonneg_right h2 hc⟩
    · exact .inr ⟨Int.mul_le_mul_of_nonpos_right h2 (by omega), Int.mul_le_mul_of_nonpos_right h1 (by omega)⟩
  have e3 := e2 bl
  have e4 := e2 bh
  generalize al * bl = p1 at *
  generalize al * bh = p2 at *
  generalize ah * bl = p3 at *
  generalize ah * bh = p4 at *
  generalize x * bl = q1 at *
  generalize x * bh = q2 at *
  generalize x * y = q at *
  omega

theorem small_prod {x y : Int} (h1 : -2147483648 ≤ x) (h2 : x ≤ 2147483648) (h3 : -2147483648 ≤ y) (h4 : y ≤ 2147483648) : In64 (x * y) := by
  have := prod_between h1 h2 h3 h4
  unfold In64
  omega

theorem btimes_sound {a b : B} {x y : Int} (hx : a.Has x) (hy : b.Has y) : (btimes a b).Has (does 4 x y) := by
  unfold btimes
  split
  · rename_i h
    simp only [small, Bool.and_eq_true, decide_eq_true_eq] at h
    unfold B.Has at *
    show _ ≤ wrap64 (x * y) ∧ wrap64 (x * y) ≤ _
    rw [wrap_of_in (small_prod (by omega) (by omega) (by omega) (by omega))]
    exact prod_between hx.1 hx.2 hy.1 hy.2
  · exact has_all (in64_wrap _)

theorem ediv_mono {a b c d : Int} (h0 : 0 ≤ a) (h1 : a ≤ b) (h2 : 0 < c) (h3 : c ≤ d) : a / d ≤ b / c := by
  have h5 : a / d * d ≤ a := Int.ediv_mul_le a (by omega)
  have h6 : 0 ≤ a / d := Int.ediv_nonneg h0 (by omega)
  refine (Int.le_ediv_iff_mul_le h2).2 ?_
  have : a / d * c ≤ a / d * d := Int.mul_le_mul_of_nonneg_left h3 h6
  omega

theorem bdiv_sound {c : Int} {a b : B} {x y : Int} (hc : c = 5 ∨ c = 6) (ha : a.Ok) (hb : b.Ok) (hx : a.Has x) (hy : b.Has y) : (bdiv c a b).Has (does c x y) := by
  have hxi : In64 x := in64_of_between ha.1 ha.2.1 hx.1 hx.2
  have hyi : In64 y := in64_of_between hb.1 hb.2.1 hy.1 hy.2
  unfold bdiv
  split
  · exact has_all (does_in hxi hyi)
  · rename_i hp
    unfold B.Has at *
    have hx0 : u x = x := u_of_nonneg hxi (by omega)
    have hy0 : u y = y := u_of_nonneg hyi (by omega)
    have hdi : y ≠ 0 → 0 ≤ x / y ∧ x / y ≤ x := fun hy1 => ⟨Int.ediv_nonneg (by omega) (by omega), Int.ediv_le_self _ (by omega)⟩
    have hmo : y ≠ 0 → 0 ≤ x % y ∧ x % y < y := fun hy1 => ⟨Int.emod_nonneg _ hy1, Int.emod_lt_of_pos _ (by omega)⟩
    have hmx : y ≠ 0 → x % y ≤ x := fun hy1 => by
      have h1 := Int.mul_ediv_add_emod x y
      have h2 : 0 ≤ y * (x / y) := Int.mul_nonneg (by omega) (hdi hy1).1
      omega
    rcases hc with rfl | rfl
    · show (if b.lo = 0 then (⟨0, a.hi⟩ : B) else if (5 : Int) = 5 then ⟨a.lo / b.hi, a.hi / b.lo⟩ else ⟨0, min a.hi (b.hi - 1)⟩).lo ≤ (if u y = 0 then 0 else wrap64 (u x / u y)) ∧
        (if u y = 0 then 0 else wrap64 (u x / u y)) ≤ (if b.lo = 0 then (⟨0, a.hi⟩ : B) else if (5 : Int) = 5 then ⟨a.lo / b.hi, a.hi / b.lo⟩ else ⟨0, min a.hi (b.hi - 1)⟩).hi
      rw [hx0, hy0]
      by_cases h0 : y = 0
      · rw [if_pos h0, if_pos (by omega)]; exact ⟨Int.le_refl 0, show 0 ≤ a.hi by omega⟩
      · have hd := hdi h0
        rw [if_neg h0, wrap_of_in (by unfold In64 at *; omega)]
        by_cases hl : b.lo = 0
        · rw [if_pos hl]; exact ⟨hd.1, show _ ≤ a.hi by omega⟩
        · rw [if_neg hl, if_pos rfl]
          exact ⟨ediv_mono (by omega) hx.1 (by omega) hy.2, ediv_mono (by omega) hx.2 (by omega) hy.1⟩
    · show (if b.lo = 0 then (⟨0, a.hi⟩ : B) else if (6 : Int) = 5 then ⟨a.lo / b.hi, a.hi / b.lo⟩ else ⟨0, min a.hi (b.hi - 1)⟩).lo ≤ (if u y = 0 then x else wrap64 (u x % u y)) ∧
        (if u y = 0 then x else wrap64 (u x % u y)) ≤ (if b.lo = 0 then (⟨0, a.hi⟩ : B) else if (6 : Int) = 5 then ⟨a.lo / b.hi, a.hi / b.lo⟩ else ⟨0, min a.hi (b.hi - 1)⟩).hi
      rw [hx0, hy0]
      by_cases h0 : y = 0
      · rw [if_pos h0, if_pos (by omega)]; exact ⟨show 0 ≤ x by omega, hx.2⟩
      · have hm := hmo h0
        have hm2 := hmx h0
        rw [if_neg h0, wrap_of_in (by unfold In64 at *; omega)]
        by_cases hl : b.lo = 0
        · rw [if_pos hl]; exact ⟨hm.1, show _ ≤ a.hi by omega⟩
        · rw [if_neg hl, if_neg (by decide)]
          exact ⟨hm.1, show _ ≤ min a.hi (b.hi - 1) by omega⟩

/-- bits of numbers that are not below 0 -/
theorem and_le_left {x y : Int} (hx : In64 x) (h0 : 0 ≤ x) : 0 ≤ bits .and .i64 x y ∧ bits .and .i64 x y ≤ x := by
  rw [bits_and_nat, u_of_nonneg hx h0]
  have h1 : (x.toNat &&& (u y).toNat) ≤ x.toNat := Nat.and_le_left
  have h2 : ((x.toNat &&& (u y).toNat : Nat) : Int) ≤ x := by omega
  rw [wrap_of_in (by unfold In64 at *; omega)]
  exact ⟨by omega, h2⟩
theorem and_comm' (x y : Int) : bits .and .i64 x y = bits .and .i64 y x := by
  rw [bits_and_nat, bits_and_nat, Nat.and_comm]
theorem and_le_right {x y : Int} (hy : In64 y) (h0 : 0 ≤ y) : 0 ≤ bits .and .i64 x y ∧ bits .and .i64 x y ≤ y := by
  rw [and_comm']; exact and_le_left hy h0

theorem lt_pow_of_le {x h : Int} (h1 : x ≤ h) (h0 : 0 < h) : x.toNat < 2 ^ bitLen h.toNat := by
  have := (bitLen_spec h.toNat).1
  omega
theorem le_fill {h : Int} {n : Nat} (h0 : 0 < h) (hn : n < 2 ^ bitLen h.toNat) : (n : Int) ≤ fill h := by
  unfold fill
  rw [if_neg (by omega)]
  have : ((2 : Int) ^ bitLen h.toNat) = ((2 ^ bitLen h.toNat : Nat) : Int) := by push_cast; rfl
  omega
theorem or_between {x y h : Int} (hx : In64 x) (hy : In64 y) (hh : In64 h) (x0 : 0 ≤ x) (y0 : 0 ≤ y) (xh : x ≤ h) (yh : y ≤ h) :
    max x y ≤ bits .or .i64 x y ∧ bits .or .i64 x y ≤ fill h := by
  rw [bits_or_nat, u_of_nonneg hx x0, u_of_nonneg hy y0]
  have hl1 : x.toNat ≤ (x.toNat ||| y.toNat) := Nat.left_le_or
  have hl2 : y.toNat ≤ (x.toNat ||| y.toNat) := Nat.right_le_or
  by_cases h0 : h = 0
  · subst h0
    have ex : x = 0 := by omega
    have ey : y = 0 := by omega
    subst ex; subst ey
    have e0 : wrap64 0 = 0 := wrap_of_in in64_zero
    have f0 : fill 0 = 0 := by unfold fill; simp
    simp [e0, f0]
  · have hpos : 0 < h := by omega
    have h1 := Nat.or_lt_two_pow (lt_pow_of_le xh hpos) (lt_pow_of_le yh hpos)
    have h2 := le_fill hpos h1
    have h3 := fill_in hh
    unfold In64 at h3
    rw [wrap_of_in (by unfold In64; omega)]
    omega
theorem xor_between {x y h : Int} (hx : In64 x) (hy : In64 y) (hh : In64 h) (x0 : 0 ≤ x) (y0 : 0 ≤ y) (xh : x ≤ h) (yh : y ≤ h) :
    0 ≤ bits .xor .i64 x y ∧ bits .xor .i64 x y ≤ fill h := by
  rw [bits_xor_nat, u_of_nonneg hx x0, u_of_nonneg hy y0]
  by_cases h0 : h = 0
  · subst h0
    have ex : x = 0 := by omega
    have ey : y = 0 := by omega
    subst ex; subst ey
    have e0 : wrap64 0 = 0 := wrap_of_in in64_zero
    have f0 : fill 0 = 0 := by unfold fill; simp
    simp [e0, f0]
  · have hpos : 0 < h := by omega
    have h1 := Nat.xor_lt_two_pow (lt_pow_of_le xh hpos) (lt_pow_of_le yh hpos)
    have h2 := le_fill hpos h1
    have h3 := fill_in hh
    unfold In64 at h3
    rw [wrap_of_in (by unfold In64; omega)]
    omega

theorem bbit_sound {c : Int} {a b : B} {x y : Int} (hc : c = 7 ∨ c = 8 ∨ c = 9) (ha : a.Ok) (hb : b.Ok) (hx : a.Has x) (hy : b.Has y) : (bbit c a b).Has (does c x y) := by
  have hxi : In64 x := in64_of_between ha.1 ha.2.1 hx.1 hx.2
  have hyi : In64 y := in64_of_between hb.1 hb.2.1 hy.1 hy.2
  have hmax : In64 (max a.hi b.hi) := by have := ha.2.1; have := hb.2.1; unfold In64 at *; omega
  unfold B.Has at hx hy
  unfold bbit
  by_cases c1 : c = 7 ∧ 0 ≤ a.lo ∧ 0 ≤ b.lo
  · rw [if_pos c1]
    obtain ⟨rfl, ha0, hb0⟩ := c1
    have h1 := and_le_left (y := y) hxi (by omega)
    have h2 := and_le_right (x := x) hyi (by omega)
    show 0 ≤ bits .and .i64 x y ∧ bits .and .i64 x y ≤ min a.hi b.hi
    omega
  rw [if_neg c1]
  by_cases c2 : c = 7 ∧ 0 ≤ a.lo
  · rw [if_pos c2]
    obtain ⟨rfl, ha0⟩ := c2
    have h1 := and_le_left (y := y) hxi (by omega)
    show 0 ≤ bits .and .i64 x y ∧ bits .and .i64 x y ≤ a.hi
    omega
  rw [if_neg c2]
  by_cases c3 : c = 7 ∧ 0 ≤ b.lo
  · rw [if_pos c3]
    obtain ⟨rfl, hb0⟩ := c3
    have h2 := and_le_right (x := x) hyi (by omega)
    show 0 ≤ bits .and .i64 x y ∧ bits .and .i64 x y ≤ b.hi
    omega
  rw [if_neg c3]
  by_cases c4 : c = 7 ∨ a.lo < 0 ∨ b.lo < 0
  · rw [if_pos c4]; exact has_all (does_in hxi hyi)
  rw [if_neg c4]
  by_cases c5 : c = 8
  · rw [if_pos c5]
    subst c5
    have := or_between hxi hyi hmax (by omega) (by omega) (by omega) (by omega)
    show max a.lo b.lo ≤ bits .or .i64 x y ∧ bits .or .i64 x y ≤ fill (max a.hi b.hi)
    omega
  · rw [if_neg c5]
    have c6 : c = 9 := by omega
    subst c6
    exact xor_between hxi hyi hmax (by omega) (by omega) (by omega) (by omega)

theorem shr_mono {a b : Int} (h : a ≤ b) (k : Nat) : a / 2 ^ k ≤ b / 2 ^ k := Int.ediv_le_ediv (pow_pos k) h

theorem bleft_sound {a : B} {x : Int} {k : Nat} (hk : k < 64) (hx : a.Has x) : (bleft a k).Has (wrap64 (u x * 2 ^ k)) := by
  unfold bleft
  split
  · exact has_all (in64_wrap _)
  · rename_i h
    have hp := pow_pos k
    have hk64 : (2 : Int) ^ k ≤ 9223372036854775808 := pow63 hk
    have h1 : wrap64 (a.lo * 2 ^ k) = a.lo * 2 ^ k := by
      have e1 : wrap64 (a.lo * 2 ^ k) / 2 ^ k * 2 ^ k ≤ wrap64 (a.lo * 2 ^ k) := Int.ediv_mul_le _ (by omega)
      have e2 : wrap64 (a.lo * 2 ^ k) < (wrap64 (a.lo * 2 ^ k) / 2 ^ k + 1) * 2 ^ k := Int.lt_ediv_add_one_mul_self _ hp
      rw [show wrap64 (a.lo * 2 ^ k) / 2 ^ k = a.lo by omega] at e1 e2
      rw [Int.add_mul, Int.one_mul] at e2
      have e3 : ∃ q, wrap64 (a.lo * 2 ^ k) - a.lo * 2 ^ k = q * 18446744073709551616 := by
        refine ⟨-((a.lo * 2 ^ k + 9223372036854775808) / 18446744073709551616), ?_⟩
        unfold wrap64; omega
      obtain ⟨q, hq⟩ := e3
      omega
    have h2 : wrap64 (a.hi * 2 ^ k) = a.hi * 2 ^ k := by
      have e1 : wrap64 (a.hi * 2 ^ k) / 2 ^ k * 2 ^ k ≤ wrap64 (a.hi * 2 ^ k) := Int.ediv_mul_le _ (by omega)
      have e2 : wrap64 (a.hi * 2 ^ k) < (wrap64 (a.hi * 2 ^ k) / 2 ^ k + 1) * 2 ^ k := Int.lt_ediv_add_one_mul_self _ hp
      rw [show wrap64 (a.hi * 2 ^ k) / 2 ^ k = a.hi by omega] at e1 e2
      rw [Int.add_mul, Int.one_mul] at e2
      have e3 : ∃ q, wrap64 (a.hi * 2 ^ k) - a.hi * 2 ^ k = q * 18446744073709551616 := by
        refine ⟨-((a.hi * 2 ^ k + 9223372036854775808) / 18446744073709551616), ?_⟩
        unfold wrap64; omega
      obtain ⟨q, hq⟩ := e3
      omega
    have e : wrap64 (u x * 2 ^ k) = wrap64 (x * 2 ^ k) := wrap_eq_of_u (by rw [u_mul_l])
    have l1 : a.lo * 2 ^ k ≤ x * 2 ^ k := Int.mul_le_mul_of_nonneg_right hx.1 (by omega)
    have l2 : x * 2 ^ k ≤ a.hi * 2 ^ k := Int.mul_le_mul_of_nonneg_right hx.2 (by omega)
    have w1 := in64_wrap (a.lo * 2 ^ k)
    have w2 := in64_wrap (a.hi * 2 ^ k)
    rw [h1] at w1 ⊢
    rw [h2] at w2 ⊢
    rw [e, wrap_of_in (in64_of_between w1 w2 l1 l2)]
    exact ⟨l1, l2⟩

theorem bright_sound {a b : B} {x y : Int} (ha : a.Ok) (hb : b.Ok) (hx : a.Has x) (hy : b.Has y) : (bright a b).Has (does 11 x y) := by
  have hxi : In64 x := in64_of_between ha.1 ha.2.1 hx.1 hx.2
  have hyi : In64 y := in64_of_between hb.1 hb.2.1 hy.1 hy.2
  have hne : ∀ k : Nat, 0 ≤ x → 0 ≤ x / 2 ^ k ∧ x / 2 ^ k ≤ x := fun k h0 => ⟨Int.ediv_nonneg h0 (by have := pow_pos k; omega), Int.ediv_le_self _ h0⟩
  unfold bright
  split
  · split
    · rename_i h0
      unfold B.Has at *
      have h1 := hne (sh y) (by omega)
      show 0 ≤ wrap64 (u x / 2 ^ sh y) ∧ wrap64 (u x / 2 ^ sh y) ≤ a.hi
      rw [u_of_nonneg hxi (by omega), wrap_of_in (by unfold In64 at *; omega)]
      omega
    · exact has_all (does_in hxi hyi)
  · rename_i he
    have ey : y = b.lo := by unfold B.Has at hy; omega
    subst ey
    split
    · rename_i h0
      show a.Has (wrap64 (u x / 2 ^ sh b.lo))
      rw [h0, Int.pow_zero, Int.ediv_one, wrap_u, wrap_of_in hxi]
      exact hx
    · rename_i hk
      split
      · rename_i h0
        have h1 := hne (sh b.lo) (by unfold B.Has at hx; omega)
        show _ ≤ wrap64 (u x / 2 ^ sh b.lo) ∧ wrap64 (u x / 2 ^ sh b.lo) ≤ _
        rw [u_of_nonneg hxi (by unfold B.Has at hx; omega), wrap_of_in (by unfold In64 at *; unfold B.Has at hx; omega)]
        exact ⟨shr_mono hx.1 _, shr_mono hx.2 _⟩
      · have hk' := sh_lt b.lo
        show 0 ≤ wrap64 (u x / 2 ^ sh b.lo) ∧ wrap64 (u x / 2 ^ sh b.lo) ≤ 9223372036854775807 / 2 ^ (sh b.lo - 1)
        generalize sh b.lo = k at *
        have hp := pow_pos (k - 1)
        have ep : (2 : Int) ^ k = 2 * 2 ^ (k - 1) := by
          conv => lhs; rw [show k = (k - 1) + 1 by omega]
          rw [Int.pow_succ]; omega
        have h1 : u x / 2 ^ k = u x / 2 / 2 ^ (k - 1) := by rw [ep, Int.ediv_ediv_of_nonneg (by omega)]
        have h2 : u x / 2 / 2 ^ (k - 1) ≤ 9223372036854775807 / 2 ^ (k - 1) := Int.ediv_le_ediv hp (by have := u_lt x; omega)
        have h3 : (9223372036854775807 : Int) / 2 ^ (k - 1) ≤ 9223372036854775807 := Int.ediv_le_self _ (by omega)
        have h4 : 0 ≤ u x / 2 / 2 ^ (k - 1) := Int.ediv_nonneg (by have := u_nonneg x; omega) (by omega)
        rw [h1, wrap_of_in (by unfold In64; omega)]
        exact ⟨h4, h2⟩

theorem bsigned_sound {a b : B} {x y : Int} (hx : a.Has x) (hy : b.Has y) : (bsigned a b).Has (does 12 x y) := by
  unfold bsigned
  have hne : ∀ k : Nat, 0 ≤ x → 0 ≤ x / 2 ^ k ∧ x / 2 ^ k ≤ x := fun k h0 => ⟨Int.ediv_nonneg h0 (by have := pow_pos k; omega), Int.ediv_le_self _ h0⟩
  have hng : ∀ k : Nat, x < 0 → x / 2 ^ k < 0 ∧ x ≤ x / 2 ^ k := fun k h0 => by
    have hp := pow_pos k
    have h1 : x < (x / 2 ^ k + 1) * 2 ^ k := Int.lt_ediv_add_one_mul_self x hp
    have h2 : x / 2 ^ k * 2 ^ k ≤ x := Int.ediv_mul_le x (by omega)
    have h3 : x / 2 ^ k < 0 := Int.ediv_neg_of_neg_of_pos h0 hp
    refine ⟨h3, ?_⟩
    refine (Int.le_ediv_iff_mul_le hp).2 ?_
    have := Int.mul_le_mul_of_nonpos_left (a := x) (b := 2 ^ k) (c := 1) (by omega) (by omega)
    omega
  split
  · rename_i he
    have ey : y = b.lo := by unfold B.Has at hy; omega
    subst ey
    exact ⟨shr_mono hx.1 _, shr_mono hx.2 _⟩
  · unfold B.Has at *
    show _ ≤ x / 2 ^ sh y ∧ x / 2 ^ sh y ≤ _
    have h1 := hne (sh y)
    have h2 := hng (sh y)
    by_cases h0 : 0 ≤ a.lo
    · rw [if_pos h0]; have := h1 (by omega); exact ⟨this.1, show _ ≤ a.hi by omega⟩
    · rw [if_neg h0]
      by_cases h3 : a.hi < 0
      · rw [if_pos h3]; have := h2 (by omega); exact ⟨show a.lo ≤ _ by omega, show _ ≤ -1 by omega⟩
      · rw [if_neg h3]
        by_cases h4 : 0 ≤ x
        · have := h1 h4; omega
        · have := h2 (by omega); omega

theorem bdoes_sound {c : Int} {a b : B} {x y : Int} (ha : a.Ok) (hb : b.Ok) (hx : a.Has x) (hy : b.Has y) : (bdoes c a b).Has (does c x y) := by
  have hxi : In64 x := in64_of_between ha.1 ha.2.1 hx.1 hx.2
  have hyi : In64 y := in64_of_between hb.1 hb.2.1 hy.1 hy.2
  unfold bdoes
  by_cases h1 : c = 1
  · subst h1; exact hy
  rw [if_neg h1]
  by_cases h2 : c = 2
  · subst h2; exact badd_sound ha hb hx hy
  rw [if_neg h2]
  by_cases h3 : c = 3
  · subst h3; exact bsub_sound ha hb hx hy
  rw [if_neg h3]
  by_cases h4 : c = 4
  · subst h4; exact btimes_sound hx hy
  rw [if_neg h4]
  by_cases h5 : c = 5 ∨ c = 6
  · rw [if_pos h5]; exact bdiv_sound h5 ha hb hx hy
  rw [if_neg h5]
  by_cases h7 : c = 7 ∨ c = 8 ∨ c = 9
  · rw [if_pos h7]; exact bbit_sound h7 ha hb hx hy
  rw [if_neg h7]
  by_cases h10 : c = 10
  · subst h10
    rw [if_pos rfl]
    by_cases hk : b.lo = b.hi
    · rw [if_neg (by simpa using hk)]
      have ey : y = b.lo := by unfold B.Has at hy; omega
      subst ey
      exact bleft_sound (sh_lt _) hx
    · rw [if_pos hk]; exact has_all (does_in hxi hyi)
  rw [if_neg h10]
  by_cases h11 : c = 11
  · subst h11; exact bright_sound ha hb hx hy
  rw [if_neg h11]
  by_cases h12 : c = 12
  · subst h12; exact bsigned_sound hx hy
  rw [if_neg h12]
  by_cases h13 : c = 13
  · subst h13
    rw [if_pos rfl]
    by_cases hm : a.lo = -9223372036854775808
    · rw [if_pos hm]; exact has_all (does_in hxi hyi)
    · rw [if_neg hm]
      show -a.hi ≤ wrap64 (-x) ∧ wrap64 (-x) ≤ -a.lo
      have h1 := ha.1
      unfold B.Has at hx
      rw [wrap_of_in (by unfold In64 at *; omega)]
      omega
  rw [if_neg h13]
  exact has_all (does_in hxi hyi)

/-! ### what is asked -/
def border (a b : B) (same : Bool) : B × B × Bool :=
  if same = false ∧ (b.lo = 9223372036854775807 ∨ a.hi = -9223372036854775808) then (bnil, bnil, false) else
  let low := if same then b.lo else b.lo + 1
  let high := if same then a.hi else a.hi - 1
  if !(bmeet a ⟨low, 9223372036854775807⟩).2 || !(bmeet b ⟨-9223372036854775808, high⟩).2 then (bnil, bnil, false)
  else ((bmeet a ⟨low, 9223372036854775807⟩).1, (bmeet b ⟨-9223372036854775808, high⟩).1, true)
def bcut (a b : B) : B :=
  if b.lo = b.hi ∧ a.lo < a.hi then (if a.lo = b.lo then ⟨a.lo + 1, a.hi⟩ else if a.hi = b.lo then ⟨a.lo, a.hi - 1⟩ else a) else a
def bunlike (a b : B) : B × B × Bool := if a.lo = a.hi ∧ a = b then (bnil, bnil, false) else (bcut a b, bcut b a, true)
def bswap (x : B × B × Bool) : B × B × Bool := (x.2.1, x.1, x.2.2)
def bunsigned (a b : B) (same : Bool) : B × B × Bool :=
  if b.lo < 0 then (a, b, true)
  else if (bmeet a ⟨0, 9223372036854775807⟩).2 = false then (bnil, bnil, false)
  else bswap (border b (bmeet a ⟨0, 9223372036854775807⟩).1 same)
def bnarrow (c : Int) (a b : B) : B × B × Bool :=
  if c = 15 then ((bmeet a b).1, (bmeet a b).1, (bmeet a b).2)
  else if c = 16 then bunlike a b
  else if c = 21 ∨ c = 22 then border a b (decide (c = 22))
  else if c = 23 ∨ c = 24 then bswap (border b a (decide (c = 24)))
  else if c = 19 ∨ c = 20 then bunsigned a b (decide (c = 20))
  else if c = 17 ∨ c = 18 then bswap (bunsigned b a (decide (c = 18)))
  else (a, b, true)
def opp (c : Int) : Int :=
  if c = 15 then 16 else if c = 16 then 15 else if c = 17 then 20 else if c = 18 then 19 else if c = 19 then 18 else if c = 20 then 17
  else if c = 21 then 24 else if c = 22 then 23 else if c = 23 then 22 else if c = 24 then 21 else 0

theorem asks_cases {c : Int} (h : asks c = true) : c = 15 ∨ c = 16 ∨ c = 17 ∨ c = 18 ∨ c = 19 ∨ c = 20 ∨ c = 21 ∨ c = 22 ∨ c = 23 ∨ c = 24 := by
  simp only [asks, Bool.and_eq_true, decide_eq_true_eq] at h; omega
theorem opp_asks {c : Int} (h : asks c = true) : asks (opp c) = true := by
  rcases asks_cases h with h | h | h | h | h | h | h | h | h | h <;> subst h <;> decide
theorem opp_opp {c : Int} (h : asks c = true) : opp (opp c) = c := by
  rcases asks_cases h with h | h | h | h | h | h | h | h | h | h <;> subst h <;> decide
theorem opp_is {c : Int} (h : asks c = true) (x y : Int) : is (opp c) x y = !is c x y := by
  rcases asks_cases h with h | h | h | h | h | h | h | h | h | h <;> subst h <;> simp [opp, is]
  all_goals (rw [Bool.eq_iff_iff]; simp; try omega)

theorem bmeet_has {a b : B} {x : Int} (h1 : a.Has x) (h2 : b.Has x) : (bmeet a b).2 = true ∧ (bmeet a b).1.Has x := by
  unfold B.Has at *
  unfold bmeet
  rw [if_neg (by omega)]
  exact ⟨rfl, show _ ≤ x by simp only; omega, show x ≤ _ by simp only; omega⟩
theorem bmeet_eq {a b : B} (h : (bmeet a b).2 = true) : (bmeet a b).1 = ⟨max a.lo b.lo, min a.hi b.hi⟩ ∧ max a.lo b.lo ≤ min a.hi b.hi := by
  unfold bmeet at *
  split at h
  · exact absurd h (by decide)
  · rename_i h1; exact ⟨by rw [if_neg h1], by omega⟩
theorem bmeet_ok {a b : B} (ha : a.In) (hb : b.In) (h : (bmeet a b).2 = true) : (bmeet a b).1.Ok := by
  obtain ⟨e, hl⟩ := bmeet_eq h
  rw [e]
  unfold B.In In64 at *
  unfold B.Ok In64
  simp only
  omega

theorem border_sound {a b : B} {x y : Int} {same : Bool} (ha : a.Ok) (hb : b.Ok) (hx : a.Has x) (hy : b.Has y) (h : if same then x ≥ y else x > y) :
    (border a b same).2.2 = true ∧ (border a b same).1.Has x ∧ (border a b same).2.1.Has y := by
  obtain ⟨⟨a1, a2⟩, ⟨a3, a4⟩, a5⟩ := ha
  obtain ⟨⟨b1, b2⟩, ⟨b3, b4⟩, b5⟩ := hb
  have hx' := hx
  have hy' := hy
  unfold B.Has at hx hy
  unfold border
  cases same with
  | true =>
    simp only [if_true] at h
    have m1 : (bmeet a ⟨b.lo, 9223372036854775807⟩).2 = true ∧ (bmeet a ⟨b.lo, 9223372036854775807⟩).1.Has x := bmeet_has hx' ⟨show b.lo ≤ x by omega, show x ≤ 9223372036854775807 by omega⟩
    have m2 : (bmeet b ⟨-9223372036854775808, a.hi⟩).2 = true ∧ (bmeet b ⟨-9223372036854775808, a.hi⟩).1.Has y := bmeet_has hy' ⟨show -9223372036854775808 ≤ y by omega, show y ≤ a.hi by omega⟩
    simp [m1, m2]
  | false =>
    simp only [Bool.false_eq_true, if_false] at h
    have m1 : (bmeet a ⟨b.lo + 1, 9223372036854775807⟩).2 = true ∧ (bmeet a ⟨b.lo + 1, 9223372036854775807⟩).1.Has x := bmeet_has hx' ⟨show b.lo + 1 ≤ x by omega, show x ≤ 9223372036854775807 by omega⟩
    have m2 : (bmeet b ⟨-9223372036854775808, a.hi - 1⟩).2 = true ∧ (bmeet b ⟨-9223372036854775808, a.hi - 1⟩).1.Has y := bmeet_has hy' ⟨show -9223372036854775808 ≤ y by omega, show y ≤ a.hi - 1 by omega⟩
    have e1 : b.lo ≠ 9223372036854775807 := by omega
    have e2 : a.hi ≠ -9223372036854775808 := by omega
    simp [m1, m2, e1, e2]

theorem bcut_sound {a b : B} {x y : Int} (hx : a.Has x) (hy : b.Has y) (h : x ≠ y) : (bcut a b).Has x := by
  unfold bcut
  unfold B.Has at *
  split
  · split
    · exact ⟨show _ + 1 ≤ x by omega, hx.2⟩
    · split
      · exact ⟨hx.1, show x ≤ _ - 1 by omega⟩
      · exact hx
  · exact hx

theorem bunsigned_sound {a b : B} {x y : Int} {same : Bool} (ha : a.Ok) (hb : b.Ok) (hx : a.Has x) (hy : b.Has y) (h : if same then u x ≤ u y else u x < u y) :
    (bunsigned a b same).2.2 = true ∧ (bunsigned a b same).1.Has x ∧ (bunsigned a b same).2.1.Has y := by
  have hxi : In64 x := in64_of_between ha.1 ha.2.1 hx.1 hx.2
  have hyi : In64 y := in64_of_between hb.1 hb.2.1 hy.1 hy.2
  unfold bunsigned
  split
  · exact ⟨rfl, hx, hy⟩
  · rename_i h0
    have hy0 : u y = y := u_of_nonneg hyi (by unfold B.Has at hy; omega)
    have hx0 : 0 ≤ x := by
      by_cases hn : x < 0
      · have e := u_of_neg hxi hn
        rw [e, hy0] at h
        unfold In64 at *
        cases same <;> simp at h <;> omega
      · omega
    have hux : u x = x := u_of_nonneg hxi hx0
    rw [hux, hy0] at h
    have m := bmeet_has hx (show (B.mk 0 9223372036854775807).Has x from ⟨hx0, hxi.2⟩)
    have mo := bmeet_ok ha.in (show (B.mk 0 9223372036854775807).In from by unfold B.In In64; simp) m.1
    rw [if_neg (by rw [m.1]; decide)]
    have r := border_sound (a := b) (b := (bmeet a ⟨0, 9223372036854775807⟩).1) (same := same) hb mo hy m.2 (by cases same <;> simpa using h)
    exact ⟨r.1, r.2.2, r.2.1⟩

theorem bnarrow_sound {c : Int} {a b : B} {x y : Int} (ha : a.Ok) (hb : b.Ok) (hx : a.Has x) (hy : b.Has y) (h : is c x y = true) :
    (bnarrow c a b).2.2 = true ∧ (bnarrow c a b).1.Has x ∧ (bnarrow c a b).2.1.Has y := by
  unfold bnarrow
  by_cases h15 : c = 15
  · subst h15
    have e : x = y := by simpa [is] using h
    subst e
    have m := bmeet_has hx hy
    exact ⟨m.1, m.2, m.2⟩
  rw [if_neg h15]
  by_cases h16 : c = 16
  · subst h16
    have e : x ≠ y := by simpa [is] using h
    rw [if_pos rfl]
    unfold bunlike
    rw [if_neg]
    · exact ⟨rfl, bcut_sound hx hy e, bcut_sound hy hx (fun e' => e e'.symm)⟩
    · rintro ⟨h1, rfl⟩
      unfold B.Has at hx hy
      omega
  rw [if_neg h16]
  by_cases h21 : c = 21 ∨ c = 22
  · rw [if_pos h21]
    refine border_sound ha hb hx hy ?_
    rcases h21 with h' | h' <;> subst h' <;> simpa [is] using h
  rw [if_neg h21]
  by_cases h23 : c = 23 ∨ c = 24
  · rw [if_pos h23]
    have r := border_sound (same := decide (c = 24)) hb ha hy hx (by rcases h23 with h' | h' <;> subst h' <;> simpa [is] using h)
    exact ⟨r.1, r.2.2, r.2.1⟩
  rw [if_neg h23]
  by_cases h19 : c = 19 ∨ c = 20
  · rw [if_pos h19]
    refine bunsigned_sound ha hb hx hy ?_
    rcases h19 with h' | h' <;> subst h' <;> simpa [is] using h
  rw [if_neg h19]
  by_cases h17 : c = 17 ∨ c = 18
  · rw [if_pos h17]
    have r := bunsigned_sound (same := decide (c = 18)) hb ha hy hx (by rcases h17 with h' | h' <;> subst h' <;> simpa [is] using h)
    exact ⟨r.1, r.2.2, r.2.1⟩
  rw [if_neg h17]
  exact ⟨rfl, hx, hy⟩

/-- one bound lies in another one, its ends in order -/
def B.Le (p a : B) : Prop := p.lo ≤ p.hi ∧ a.lo ≤ p.lo ∧ p.hi ≤ a.hi
theorem B.Le.ok {p a : B} (h : p.Le a) (ha : a.Ok) : p.Ok := by
  unfold B.Le at h; unfold B.Ok In64 at *; omega
theorem B.Le.trans {p q a : B} (h : p.Le q) (h' : q.Le a) : p.Le a := by unfold B.Le at *; omega
theorem B.le_refl {a : B} (h : a.Ok) : a.Le a := ⟨h.2.2, Int.le_refl _, Int.le_refl _⟩

theorem bmeet_le {a b : B} (h : (bmeet a b).2 = true) : (bmeet a b).1.Le a ∧ (bmeet a b).1.Le b := by
  obtain ⟨e, hl⟩ := bmeet_eq h
  rw [e]
  unfold B.Le
  simp only
  omega
theorem border_le {a b : B} {same : Bool} (h : (border a b same).2.2 = true) : (border a b same).1.Le a ∧ (border a b same).2.1.Le b := by
  unfold border at *
  by_cases h1 : same = false ∧ (b.lo = 9223372036854775807 ∨ a.hi = -9223372036854775808)
  · rw [if_pos h1] at h; exact absurd h (by simp)
  · rw [if_neg h1] at h ⊢
    generalize (if same = true then b.lo else b.lo + 1) = low at *
    generalize (if same = true then a.hi else a.hi - 1) = high at *
    by_cases h2 : (!(bmeet a ⟨low, 9223372036854775807⟩).2 || !(bmeet b ⟨-9223372036854775808, high⟩).2) = true
    · simp only at h; rw [if_pos h2] at h; exact absurd h (by simp)
    · simp only; rw [if_neg h2]
      simp only [Bool.or_eq_true, Bool.not_eq_true', not_or, Bool.not_eq_false] at h2
      exact ⟨(bmeet_le h2.1).1, (bmeet_le h2.2).1⟩
theorem bcut_le {a b : B} (ha : a.Ok) : (bcut a b).Le a := by
  unfold bcut B.Le
  have := ha.2.2
  split
  · split
    · simp only; omega
    · split
      · simp only; omega
      · omega
  · omega
theorem bunsigned_le {a b : B} {same : Bool} (ha : a.Ok) (hb : b.Ok) (h : (bunsigned a b same).2.2 = true) : (bunsigned a b same).1.Le a ∧ (bunsigned a b same).2.1.Le b := by
  unfold bunsigned at *
  split at h
  · rename_i h0; rw [if_pos h0]; exact ⟨B.le_refl ha, B.le_refl hb⟩
  · rename_i h0
    rw [if_neg h0]
    split at h
    · exact absurd h (by simp)
    · rename_i h1
      rw [if_neg h1]
      have r := border_le h
      exact ⟨r.2.trans (bmeet_le (by simpa using h1)).1, r.1⟩
theorem bnarrow_le {c : Int} {a b : B} (ha : a.Ok) (hb : b.Ok) (h : (bnarrow c a b).2.2 = true) : (bnarrow c a b).1.Le a ∧ (bnarrow c a b).2.1.Le b := by
  unfold bnarrow at *
  by_cases h15 : c = 15
  · rw [if_pos h15] at h ⊢; exact bmeet_le h
  rw [if_neg h15] at h ⊢
  by_cases h16 : c = 16
  · rw [if_pos h16] at h ⊢
    unfold bunlike at *
    split at h
    · exact absurd h (by simp)
    · rename_i h1; rw [if_neg h1]; exact ⟨bcut_le ha, bcut_le hb⟩
  rw [if_neg h16] at h ⊢
  by_cases h21 : c = 21 ∨ c = 22
  · rw [if_pos h21] at h ⊢; exact border_le h
  rw [if_neg h21] at h ⊢
  by_cases h23 : c = 23 ∨ c = 24
  · rw [if_pos h23] at h ⊢; have r := border_le h; exact ⟨r.2, r.1⟩
  rw [if_neg h23] at h ⊢
  by_cases h19 : c = 19 ∨ c = 20
  · rw [if_pos h19] at h ⊢; exact bunsigned_le ha hb h
  rw [if_neg h19] at h ⊢
  by_cases h17 : c = 17 ∨ c = 18
  · rw [if_pos h17] at h ⊢; have r := bunsigned_le hb ha h; exact ⟨r.2, r.1⟩
  rw [if_neg h17] at h ⊢
  exact ⟨B.le_refl ha, B.le_refl hb⟩

theorem bjoin_ok {a b : B} (ha : a.Ok) (hb : b.Ok) : (bjoin a b).Ok := by
  unfold bjoin; unfold B.Ok In64 at *; simp only; omega

end Go.Proofs.YtglilddlhibogaaGreatDoor.P
