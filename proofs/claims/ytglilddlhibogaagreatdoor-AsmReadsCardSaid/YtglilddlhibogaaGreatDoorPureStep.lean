/- What is wrong with a step, and with a program: plain functions on Int, no program in sight. No conditions. -/
import Derived.RowKit
namespace Go.Proofs.YtglilddlhibogaaGreatDoor.P

/-- does a code have two numbers, or ask, or put away? -/
def two (c : Int) : Prop := (1 ≤ c ∧ c ≤ 12) ∨ (15 ≤ c ∧ c ≤ 24) ∨ c = 26
/-- has a step what it should not have? -/
def bad (c d s : Int) (r : Bool) (o n : Int) : Prop :=
  (¬ (two c ∨ c = 13 ∨ c = 25) ∧ d ≠ 0) ∨ (¬ (c = 25 ∨ two c ∧ r = true) ∧ s ≠ 0) ∨ (¬ two c ∧ r = true) ∨
  (¬ (c = 14 ∨ (15 ≤ c ∧ c ≤ 24) ∨ c = 25 ∨ c = 26) ∧ o ≠ 0) ∨ (¬ (two c ∧ r = false ∨ c = 27) ∧ n ≠ 0) ∨ (c = 27 ∧ (n < 1 ∨ 3 < n))
instance (c : Int) : Decidable (two c) := by unfold two; exact inferInstance
instance (c d s : Int) (r : Bool) (o n : Int) : Decidable (bad c d s r o n) := by unfold bad; exact inferInstance
/-- what is wrong with a step by itself: an error's number, 0: nothing -/
def wrong (c d s : Int) (r : Bool) (o n : Int) : Int :=
  if c < 1 ∨ 28 < c then 3 else if d < 0 ∨ 10 < d ∨ s < 0 ∨ 10 < s then 2 else if (c ≤ 13 ∨ c = 25) ∧ d = 10 then 6
  else if bad c d s r o n then 1 else 0
theorem wrong_3 {c d s : Int} {r : Bool} {o n : Int} (h : c < 1 ∨ 28 < c) : wrong c d s r o n = 3 := if_pos h
theorem wrong_2 {c d s : Int} {r : Bool} {o n : Int} (h : ¬ (c < 1 ∨ 28 < c)) (h2 : d < 0 ∨ 10 < d ∨ s < 0 ∨ 10 < s) : wrong c d s r o n = 2 := (if_neg h).trans (if_pos h2)
theorem wrong_6 {c d s : Int} {r : Bool} {o n : Int} (h : ¬ (c < 1 ∨ 28 < c)) (h2 : ¬ (d < 0 ∨ 10 < d ∨ s < 0 ∨ 10 < s)) (h3 : (c ≤ 13 ∨ c = 25) ∧ d = 10) : wrong c d s r o n = 6 :=
  (if_neg h).trans ((if_neg h2).trans (if_pos h3))
theorem wrong_1 {c d s : Int} {r : Bool} {o n : Int} (h : ¬ (c < 1 ∨ 28 < c)) (h2 : ¬ (d < 0 ∨ 10 < d ∨ s < 0 ∨ 10 < s)) (h3 : ¬ ((c ≤ 13 ∨ c = 25) ∧ d = 10)) (h4 : bad c d s r o n) : wrong c d s r o n = 1 :=
  (if_neg h).trans ((if_neg h2).trans ((if_neg h3).trans (if_pos h4)))
theorem wrong_0 {c d s : Int} {r : Bool} {o n : Int} (h : ¬ (c < 1 ∨ 28 < c)) (h2 : ¬ (d < 0 ∨ 10 < d ∨ s < 0 ∨ 10 < s)) (h3 : ¬ ((c ≤ 13 ∨ c = 25) ∧ d = 10)) (h4 : ¬ bad c d s r o n) : wrong c d s r o n = 0 :=
  (if_neg h).trans ((if_neg h2).trans ((if_neg h3).trans (if_neg h4)))

/-- a step's six cells -/
structure Step where
  code : Int
  dst : Int
  src : Int
  reg : Bool
  off : Int
  num : Int
def Step.wrong (s : Step) : Int := P.wrong s.code s.dst s.src s.reg s.off s.num
/-- does a step lead on? -/
def Step.leads (s : Step) : Prop := s.code = 14 ∨ (15 ≤ s.code ∧ s.code ≤ 24)
instance (s : Step) : Decidable s.leads := by unfold Step.leads; exact inferInstance
/-- what is wrong with step i of a program of n steps -/
def at_ (S : Nat → Step) (n i : Nat) : Int :=
  if (S i).wrong ≠ 0 then (S i).wrong else if (S i).leads ∧ ((S i).off < 0 ∨ (S i).off ≥ (n : Int) - 1 - i) then 10
  else if i + 1 = n ∧ (S i).code ≠ 28 then 8 else 0
/-- the first step, from step i on, with which something is wrong: (error, place), (0, -1): none -/
def from_ (S : Nat → Step) (n : Nat) : Nat → Nat → Int × Int
  | _, 0 => (0, -1)
  | i, k + 1 => if at_ S n i ≠ 0 then (at_ S n i, (i : Int)) else from_ S n (i + 1) k
/-- what is wrong with a program -/
def check (S : Nat → Step) (n : Nat) : Int × Int := if n < 1 ∨ 200 < n then (4, -1) else from_ S n 0 n
theorem from_hit {S : Nat → Step} {n i : Nat} (h : i < n) (ha : at_ S n i ≠ 0) : from_ S n i (n - i) = (at_ S n i, (i : Int)) := by
  obtain ⟨k, hk⟩ : ∃ k, n - i = k + 1 := ⟨n - i - 1, by omega⟩
  rw [hk]; exact if_pos ha
theorem from_next {S : Nat → Step} {n i : Nat} (h : i < n) (ha : at_ S n i = 0) : from_ S n i (n - i) = from_ S n (i + 1) (n - (i + 1)) := by
  obtain ⟨k, hk⟩ : ∃ k, n - i = k + 1 := ⟨n - i - 1, by omega⟩
  rw [hk, show n - (i + 1) = k by omega]; exact if_neg (by simp [ha])
theorem from_end (S : Nat → Step) (n : Nat) : from_ S n n (n - n) = (0, -1) := by rw [Nat.sub_self]; rfl

end Go.Proofs.YtglilddlhibogaaGreatDoor.P
