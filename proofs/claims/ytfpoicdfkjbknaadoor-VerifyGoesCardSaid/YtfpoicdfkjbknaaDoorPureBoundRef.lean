/- Plain laws: what the reference computes of bounds (its table, and what is left of two) is what package bound computes. No program in sight. Conditions: the bounds' ends are int64's, in order. -/
import Derived.Test.YtfpoicdfkjbknaaDoorPureBound
namespace Go.Proofs.YtfpoicdfkjbknaaDoor.P
open Go.RowKit (wrap64)
set_option linter.unusedSimpArgs false
set_option linter.unusedVariables false

def radd (a b : Int) : Int × Bool :=
  if (0 < b ∧ a > 9223372036854775807 - b) ∨ (b < 0 ∧ a < -9223372036854775808 - b) then (0, false) else (wrap64 (a + b), true)
def rsub (a b : Int) : Int × Bool :=
  if (0 < b ∧ a < -9223372036854775808 + b) ∨ (b < 0 ∧ a > 9223372036854775807 + b) then (0, false) else (wrap64 (a - b), true)
theorem radd_eq {a b : Int} (ha : In64 a) (hb : In64 b) : radd a b = if In64 (a + b) then (a + b, true) else (0, false) := by
  unfold radd
  by_cases h : In64 (a + b)
  · rw [if_pos h, if_neg (by unfold In64 at *; omega), wrap_of_in h]
  · rw [if_neg h, if_pos (by unfold In64 at *; omega)]
theorem rsub_eq {a b : Int} (ha : In64 a) (hb : In64 b) : rsub a b = if In64 (a - b) then (a - b, true) else (0, false) := by
  unfold rsub
  by_cases h : In64 (a - b)
  · rw [if_pos h, if_neg (by unfold In64 at *; omega), wrap_of_in h]
  · rw [if_neg h, if_pos (by unfold In64 at *; omega)]

/-- a sum of bounds, by the reference -/
def rbadd (a b : B) : B :=
  if (radd a.lo b.lo).2 = true ∧ (radd a.hi b.hi).2 = true then ⟨(radd a.lo b.lo).1, (radd a.hi b.hi).1⟩ else ball
def rbsub (a b : B) : B :=
  if (rsub a.lo b.hi).2 = true ∧ (rsub a.hi b.lo).2 = true then ⟨(rsub a.lo b.hi).1, (rsub a.hi b.lo).1⟩ else ball
theorem rbadd_eq {a b : B} (ha : a.Ok) (hb : b.Ok) : rbadd a b = badd a b := by
  rw [badd_eq ha.in hb.in]; unfold rbadd
  rw [radd_eq ha.1 hb.1, radd_eq ha.2.1 hb.2.1]
  by_cases h1 : In64 (a.lo + b.lo) <;> by_cases h2 : In64 (a.hi + b.hi) <;> simp [h1, h2]
theorem rbsub_eq {a b : B} (ha : a.Ok) (hb : b.Ok) : rbsub a b = bsub a b := by
  rw [bsub_eq ha.in hb.in]; unfold rbsub
  rw [rsub_eq ha.1 hb.2.1, rsub_eq ha.2.1 hb.1]
  by_cases h1 : In64 (a.lo - b.hi) <;> by_cases h2 : In64 (a.hi - b.lo) <;> simp [h1, h2]

/-- products, by the reference: the first one is joined twice -/
def rbmul (a b : B) : B :=
  if small a.lo && small a.hi && small b.lo && small b.hi then
    bjoin (bjoin (bjoin (bjoin (bone (a.lo * b.lo)) (bone (a.lo * b.lo))) (bone (a.lo * b.hi))) (bone (a.hi * b.lo))) (bone (a.hi * b.hi))
  else ball
theorem rbmul_eq (a b : B) : rbmul a b = btimes a b := by
  unfold rbmul btimes
  have : bjoin (bone (a.lo * b.lo)) (bone (a.lo * b.lo)) = bone (a.lo * b.lo) := by unfold bjoin bone; simp [Int.min_self, Int.max_self]
  rw [this]

def rbdiv (c : Int) (a b : B) : B :=
  if (0 ≤ a.lo ∧ 0 ≤ b.lo) ∧ 0 < b.lo then (if c = 5 then ⟨a.lo / b.hi, a.hi / b.lo⟩ else ⟨0, min a.hi (b.hi - 1)⟩) else if 0 ≤ a.lo ∧ 0 ≤ b.lo then ⟨0, a.hi⟩ else ball
theorem rbdiv_eq (c : Int) (a b : B) : rbdiv c a b = bdiv c a b := by
  unfold rbdiv bdiv
  by_cases h1 : a.lo < 0 ∨ b.lo < 0
  · rw [if_pos h1, if_neg (by omega), if_neg (by omega)]
  · rw [if_neg h1]
    by_cases h2 : b.lo = 0
    · rw [if_pos h2, if_neg (by omega), if_pos (by omega)]
    · rw [if_neg h2, if_pos (by omega)]

def rband (a b : B) : B :=
  if 0 ≤ b.lo then ⟨0, min (if 0 ≤ a.lo then a.hi else 9223372036854775807) b.hi⟩ else if 0 ≤ a.lo then ⟨0, a.hi⟩ else ball
theorem rband_eq {a b : B} (hb : b.Ok) : rband a b = bbit 7 a b := by
  unfold rband bbit
  by_cases h1 : 0 ≤ a.lo <;> by_cases h2 : 0 ≤ b.lo
  · simp [h1, h2]
  · simp [h1, h2]
  · have := hb.2.1
    unfold In64 at this
    have e : min 9223372036854775807 b.hi = b.hi := by omega
    simp [h1, h2, e]
  · have : a.lo < 0 := by omega
    simp [h1, h2, this]
def rbor (a b : B) : B := if 0 ≤ a.lo ∧ 0 ≤ b.lo then ⟨max a.lo b.lo, fill (max a.hi b.hi)⟩ else ball
def rbxor (a b : B) : B := if 0 ≤ a.lo ∧ 0 ≤ b.lo then ⟨0, fill (max a.hi b.hi)⟩ else ball
theorem rbor_eq (a b : B) : rbor a b = bbit 8 a b := by
  unfold rbor bbit
  by_cases h : 0 ≤ a.lo ∧ 0 ≤ b.lo
  · rw [if_pos h, if_neg (by omega), if_neg (by omega), if_neg (by omega), if_neg (by omega)]; rfl
  · rw [if_neg h, if_neg (by omega), if_neg (by omega), if_neg (by omega), if_pos (by omega)]
theorem rbxor_eq (a b : B) : rbxor a b = bbit 9 a b := by
  unfold rbxor bbit
  by_cases h : 0 ≤ a.lo ∧ 0 ≤ b.lo
  · rw [if_pos h, if_neg (by omega), if_neg (by omega), if_neg (by omega), if_neg (by omega)]; rfl
  · rw [if_neg h, if_neg (by omega), if_neg (by omega), if_neg (by omega), if_pos (by omega)]

theorem does10 (a b : Int) : does 10 a b = wrap64 (a * 2 ^ sh b) := by
  show wrap64 (u a * 2 ^ sh b) = _
  exact wrap_eq_of_u (u_mul_l _ _)
theorem does11 (a b : Int) : does 11 a b = wrap64 (u a / 2 ^ sh b) := rfl
theorem does12 (a b : Int) : does 12 a b = a / 2 ^ sh b := rfl

/-- the low end's 6 lowest bits -/
def rk (b : B) : Int := (sh b.lo : Int)
theorem sh_sh (x : Int) : sh (sh x : Int) = sh x := by have := sh_lt x; unfold sh at *; omega
theorem sh_rk (b : B) : sh (rk b) = sh b.lo := sh_sh _
def rblsh (a b : B) : B :=
  if b.lo = b.hi ∧ does 12 (does 10 a.lo (rk b)) (rk b) = a.lo ∧ does 12 (does 10 a.hi (rk b)) (rk b) = a.hi then ⟨does 10 a.lo (rk b), does 10 a.hi (rk b)⟩ else ball
theorem rblsh_eq (a b : B) : rblsh a b = bdoes 10 a b := by
  show _ = if b.lo ≠ b.hi then ball else bleft a (sh b.lo)
  unfold rblsh bleft
  rw [does12, does12, does10, does10, sh_rk]
  by_cases h : b.lo = b.hi
  · rw [if_neg (not_not_intro h)]
    by_cases h1 : wrap64 (a.lo * 2 ^ sh b.lo) / 2 ^ sh b.lo = a.lo <;> by_cases h2 : wrap64 (a.hi * 2 ^ sh b.lo) / 2 ^ sh b.lo = a.hi <;> simp [h]
    all_goals (rw [← h]; simp [h1, h2])
  · rw [if_pos h, if_neg (fun x => h x.1)]
theorem half_max (j : Nat) : (18446744073709551615 : Int) / 2 ^ (j + 1) = 9223372036854775807 / 2 ^ j := by
  have h : (18446744073709551615 : Int) / 2 = 9223372036854775807 := by omega
  rw [Int.pow_succ, Int.mul_comm, ← Int.ediv_ediv_of_nonneg (show (0 : Int) ≤ 2 by omega), h]
theorem in64_max : In64 9223372036854775807 := by unfold In64; omega
theorem u_neg_one : u (-1) = 18446744073709551615 := by unfold u; decide
theorem rsh_neg' {k : Nat} (h0 : k ≠ 0) : wrap64 (18446744073709551615 / 2 ^ k) = 9223372036854775807 / 2 ^ (k - 1) := by
  have hk : k = (k - 1) + 1 := by omega
  generalize k - 1 = j at *
  subst hk
  rw [half_max]
  exact wrap_of_in (in64_shr in64_max _)
theorem rsh_neg {k : Nat} (h0 : k ≠ 0) : wrap64 (u (-1) / 2 ^ k) = 9223372036854775807 / 2 ^ (k - 1) :=
  (congrArg (fun n => wrap64 (n / 2 ^ k)) u_neg_one).trans (rsh_neg' h0)
def rbrsh (a b : B) : B :=
  if b.lo = b.hi ∧ rk b = 0 then a else if b.lo = b.hi ∧ 0 ≤ a.lo then ⟨does 12 a.lo (rk b), does 12 a.hi (rk b)⟩
  else if b.lo = b.hi then ⟨0, does 11 (-1) (rk b)⟩ else if 0 ≤ a.lo then ⟨0, a.hi⟩ else ball
theorem rbrsh_eq (a b : B) : rbrsh a b = bright a b := by
  unfold rbrsh bright
  rw [does12, does12, sh_rk]
  have hk : rk b = 0 ↔ sh b.lo = 0 := by unfold rk; omega
  by_cases h : b.lo = b.hi
  · rw [if_neg (show ¬ b.lo ≠ b.hi from not_not_intro h)]
    by_cases h0 : sh b.lo = 0
    · rw [if_pos h0, if_pos ⟨h, hk.2 h0⟩]
    · rw [if_neg h0, if_neg (fun x => h0 (hk.1 x.2))]
      by_cases h1 : 0 ≤ a.lo
      · rw [if_pos ⟨h, h1⟩, if_pos h1]
      · rw [if_neg (show ¬ (b.lo = b.hi ∧ 0 ≤ a.lo) from fun x => h1 x.2), if_pos h, if_neg h1]
        rw [does11, sh_rk, rsh_neg h0]
  · rw [if_pos h, if_neg (fun x => h x.1), if_neg (fun x => h x.1), if_neg h]
def rbarsh (a b : B) : B :=
  if b.lo = b.hi then ⟨does 12 a.lo (rk b), does 12 a.hi (rk b)⟩ else if 0 ≤ a.lo then ⟨0, a.hi⟩ else if a.hi < 0 then ⟨a.lo, -1⟩ else a
theorem rbarsh_eq (a b : B) : rbarsh a b = bsigned a b := by
  unfold rbarsh bsigned
  rw [does12, does12, sh_rk]
def rbneg (a : B) : B := if -9223372036854775808 < a.lo then ⟨-a.hi, -a.lo⟩ else ball
theorem rbneg_eq {a b : B} (ha : a.Ok) : rbneg a = bdoes 13 a b := by
  show _ = if a.lo = -9223372036854775808 then ball else ⟨-a.hi, -a.lo⟩
  unfold rbneg
  have := ha.1
  unfold In64 at this
  by_cases h : a.lo = -9223372036854775808
  · rw [if_pos h, if_neg (by omega)]
  · rw [if_neg h, if_pos (by omega)]

/-! ### what is asked -/
/-- the reference's cut: it says 'not the same' where the program says 'below' -/
def rcut (a b : B) : B :=
  if b.lo = b.hi ∧ a.lo ≠ a.hi then (if a.lo = b.lo then ⟨a.lo + 1, a.hi⟩ else if a.hi = b.lo then ⟨a.lo, a.hi - 1⟩ else a) else a
theorem rcut_eq {a b : B} (ha : a.Ok) : rcut a b = bcut a b := by
  unfold rcut bcut
  have := ha.2.2
  by_cases h : a.lo = a.hi
  · rw [if_neg (by omega), if_neg (by omega)]
  · by_cases h2 : b.lo = b.hi
    · rw [if_pos ⟨h2, h⟩, if_pos (show b.lo = b.hi ∧ a.lo < a.hi by omega)]
    · rw [if_neg (by omega), if_neg (by omega)]
def rcodeopp (c : Int) : Int := opp c

end Go.Proofs.YtfpoicdfkjbknaaDoor.P
