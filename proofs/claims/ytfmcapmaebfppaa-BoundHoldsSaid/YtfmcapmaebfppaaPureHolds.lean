/- What is between stays between, in the words in which the law asks it: plain laws, no program in sight. Conditions: the ends are int64's in order, and the numbers are between. -/
import Derived.Test.YtfmcapmaebfppaaPureBound
namespace Go.Proofs.Ytfmcapmaebfppaa.P
open Go.RowKit (wrap64)
set_option linter.unusedSimpArgs false
set_option linter.unusedVariables false

theorem holds_does {a b : B} {x y : Int} (ha : a.Ok) (hb : b.Ok) (hx : a.Has x) (hy : b.Has y) (c : Int) :
    decide ((bdoes c a b).lo ≤ does c x y ∧ does c x y ≤ (bdoes c a b).hi) = true := decide_eq_true (bdoes_sound ha hb hx hy)

theorem holds_opp {c : Int} (h : asks c = true) (x y : Int) : (is c x y == is (opp c) x y) = false ∧ (opp (opp c) != c) = false := by
  rw [opp_is h, opp_opp h]
  cases is c x y <;> simp

theorem holds_meet {a b : B} (ha : a.Ok) (hb : b.Ok) : (bmeet a b).2 = (decide (a.lo ≤ b.hi) && decide (b.lo ≤ a.hi)) := by
  unfold bmeet
  have h1 := ha.2.2
  have h2 := hb.2.2
  by_cases h : max a.lo b.lo > min a.hi b.hi
  · rw [if_pos h]
    rw [Bool.eq_iff_iff]; simp; omega
  · rw [if_neg h]
    rw [Bool.eq_iff_iff]; simp; omega
theorem holds_meet_has {a b : B} (h : (bmeet a b).2 = true) : a.Has (bmeet a b).1.lo ∧ b.Has (bmeet a b).1.lo ∧ a.Has (bmeet a b).1.hi ∧ b.Has (bmeet a b).1.hi := by
  obtain ⟨e, hl⟩ := bmeet_eq h
  rw [e]
  unfold B.Has
  simp only
  omega

/-- the law's own row: a bound with its ends in order, that has a number -/
theorem row_ok {l g n : Int} (h1 : In64 l) (h2 : In64 g) (h3 : In64 n) : (B.mk (min l (min g n)) (max l (max g n))).Ok ∧ (B.mk (min l (min g n)) (max l (max g n))).Has n := by
  unfold B.Ok B.Has In64 at *
  simp only
  omega

end Go.Proofs.Ytfmcapmaebfppaa.P
