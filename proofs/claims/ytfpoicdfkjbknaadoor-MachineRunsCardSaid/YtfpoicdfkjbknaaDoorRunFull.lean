/- What comes of any program: both Runs, by contract. Conditions: the program's cells are known, its numbers are int64's; the variable errors.errorType holds the type error's handle. -/
import Derived.Test.YtfpoicdfkjbknaaDoorT7
import Derived.Test.YtfpoicdfkjbknaaDoorT8
namespace Go.Proofs.YtfpoicdfkjbknaaDoor.W
open Go.RowKit Go.Proofs.YtfpoicdfkjbknaaDoor.P
set_option linter.unusedSimpArgs false
set_option linter.unusedVariables false

theorem from_zero {S : Nat → Step} {n : Nat} : ∀ (k i : Nat), (from_ S n i k).1 = 0 → from_ S n i k = (0, -1)
  | 0, i, _ => rfl
  | k + 1, i, h => by
    unfold from_ at h ⊢
    by_cases ha : at_ S n i = 0
    · rw [if_neg (by simp [ha])] at h ⊢
      exact from_zero k (i + 1) h
    · rw [if_pos ha] at h
      exact absurd h ha
/-- what comes of a program: what is wrong with it, or its run -/
def outcome (S : Nat → Step) (n : Nat) (told cells : Nat → Int) (time : Int) : (Int × Int) ⊕ (Mach × Int × Int) :=
  if n < 1 ∨ 200 < n then .inl (4, -1) else if (from_ S n 0 n).1 ≠ 0 then .inl ((from_ S n 0 n).1, (from_ S n 0 n).2) else Mach.run S told time n (Mach.init cells) 0 1
/-- a program's slice -/
def ProgAt (w : World) (oa : Option Addr) (S : Nat → Step) (n : Nat) : Prop := 0 < n → ∃ a, oa = some a ∧ Cells w a S n
theorem ProgAt.later {w w' : World} {oa : Option Addr} {S : Nat → Step} {n : Nat} (h : ProgAt w oa S n) (hb : Below w.heap.size w w') : ProgAt w' oa S n := fun hn => by
  obtain ⟨a, h1, h2⟩ := h hn
  exact ⟨a, h1, h2.later hb⟩

theorem Run_full (oa : Option Addr) (n cap : Nat) (S : Nat → Step) (hcap : n ≤ cap) (told cells : Nat → Int) (time : Int) (w : World) (hs : ProgAt w oa S n) (hg : w.cell? ⟨5, 0, none⟩ = some (.iface 217 (.agg #[.pointer (some ⟨10, 37, none⟩)]))) :
    Calls Tryd.prog 7 #[.slice oa n cap, words8 told, words16 cells, .int .i64 time] w fun e w' => (∃ v err, e = .returned (.tuple #[v, err]) ∧ RanIs w' v err (outcome S n told cells time)) ∧ Below w.heap.size w w' := by
  have gz := block_lt_of_cell hg
  unfold outcome
  by_cases h : n < 1 ∨ 200 < n
  · rw [if_pos h]
    exact Run_err _ told cells time 4 (-1) (by decide) w fun w' hb => (Check_limit oa n cap h hcap w').mono fun e w'' ⟨he, hw⟩ => ⟨_, he, .inr (.inl ⟨by decide, rfl, rfl⟩), by rw [hw]; exact Below.refl _ _⟩
  · rw [if_neg h]
    obtain ⟨a, ea, hs2⟩ := hs (by omega)
    subst ea
    clear hs
    have hs := hs2
    by_cases h0 : (from_ S n 0 n).1 = 0
    · rw [if_neg (by simp [h0])]
      exact Run_ok a n cap S (by omega) (by omega) hcap told cells time w hs hg (from_zero _ _ h0)
    · rw [if_pos h0]
      exact Run_err _ told cells time _ _ h0 w fun w' hb => (Check_some a n cap S (by omega) (by omega) hcap w' (hs.later hb) ((hb.cell gz).trans hg)).mono fun e w'' ⟨v, he, hv, hb2⟩ => ⟨v, he, hv, hb2⟩

theorem RefRun_full (oa : Option Addr) (n cap : Nat) (S : Nat → Step) (hcap : n ≤ cap) (told cells : Nat → Int) (time : Int) (w : World) (hs : ProgAt w oa S n) (hin : ∀ j, j < n → In64 (S j).off ∧ In64 (S j).num) (ht : ∀ r, In64 (told r)) (hce : ∀ r, In64 (cells r)) (htm : In64 time) :
    Calls Tryd.prog 6 #[.slice oa n cap, rwords8 told, rwords16 cells, .int .i64 time] w fun e w' => (∃ v f, e = .returned (.tuple #[v, f]) ∧ RefRanIs w' v f (outcome S n told cells time)) ∧ Below w.heap.size w w' := by
  unfold outcome
  by_cases h : n < 1 ∨ 200 < n
  · rw [if_pos h]
    exact RefRun_err _ told cells time 4 (-1) (by decide) w fun w' hb => RefCheck_limit oa n cap h hcap w'
  · rw [if_neg h]
    obtain ⟨a, ea, hs2⟩ := hs (by omega)
    subst ea
    clear hs
    have hs := hs2
    by_cases h0 : (from_ S n 0 n).1 = 0
    · rw [if_neg (by simp [h0])]
      exact RefRun_ok a n cap S (by omega) (by omega) hcap told cells time w hs hin ht hce htm (from_zero _ _ h0)
    · rw [if_pos h0]
      exact RefRun_err _ told cells time _ _ h0 w fun w' hb => RefCheck_some a n cap S (by omega) (by omega) hcap w' (hs.later hb)
end Go.Proofs.YtfpoicdfkjbknaaDoor.W
