/- A part of the proof; each theorem states its conditions. -/
import Derived.Test.YtpdlmbbgioenoaaGreatDoorPureMach
set_option linter.unusedSimpArgs false
set_option linter.unusedVariables false
namespace Go.Proofs.YtpdlmbbgioenoaaGreatDoor.P
def VOk (v : Val) : Prop := (v.kind = 0 ∨ v.kind = 1 ∨ v.kind = 2 ∨ v.kind = 3 ∨ v.kind = 4) ∧ (v.kind = 4 → 0 ≤ v.cell ∧ v.cell < 4)
def MOk (M : Mach) : Prop := (∀ r, VOk (M.regs r)) ∧ (∀ s, VOk (M.slots s))
theorem VOk.none : VOk Val.none := ⟨.inl rfl, fun h => by simp [Val.none] at h⟩
theorem VOk.num (n : Int) : VOk (.num n) := ⟨.inr (.inl rfl), fun h => by simp [Val.num] at h⟩
theorem VOk.upd {f : Nat → Val} (h : ∀ r, VOk (f r)) (i : Nat) {v : Val} (hv : VOk v) : ∀ r, VOk (upd f i v r) := by
  intro r
  by_cases e : r = i
  · subst e; rw [upd_same]; exact hv
  · rw [upd_other e]; exact h r
theorem MOk.load {M : Mach} (h : MOk M) (told : Nat → Int) (v : Val) (o : Int) : VOk (M.load told v o).1 := by
  unfold Mach.load
  split
  · exact VOk.none
  split
  · exact VOk.num _
  split
  · exact VOk.num _
  split
  · exact VOk.none
  · exact h.2 _
theorem MOk.second {M : Mach} (h : MOk M) (t : Step) : VOk (M.second t) := by
  unfold Mach.second
  split
  · exact h.1 _
  · exact VOk.num _
theorem MOk.store {M : Mach} (h : MOk M) (v : Val) (o : Int) {x : Val} (hx : VOk x) : MOk (M.store v o x).1 := by
  unfold Mach.store
  repeat' split
  all_goals first | exact h | exact ⟨h.1, VOk.upd h.2 _ hx⟩ | exact ⟨h.1, h.2⟩
theorem MOk.call {M : Mach} (h : MOk M) (time n : Int) : MOk (M.call time n).1 := by
  unfold Mach.call
  split
  · exact h
  split
  · exact h
  refine ⟨fun r => ?_, h.2⟩
  simp only
  split
  · split
    · split
      · rename_i hx; exact ⟨by simp, fun _ => hx⟩
      · exact VOk.num _
    · split <;> exact VOk.num _
  split
  · exact VOk.none
  · exact h.1 r
theorem VOk.counts {a b : Val} (ha : VOk a) (hb : VOk b) (c : Int) : VOk (vcounts c a b).1 := by
  unfold vcounts
  split
  · exact VOk.none
  split
  · exact hb
  split
  · exact VOk.num _
  split
  · exact hb
  split
  · exact VOk.none
  · exact ha
theorem MOk.setreg {M : Mach} (h : MOk M) (r : Nat) {v : Val} (hv : VOk v) : MOk { M with regs := upd M.regs r v } := ⟨VOk.upd h.1 _ hv, h.2⟩
def Mach.init (cells : Nat → Int) : Mach := ⟨fun r => if r = 1 then ⟨2, 0, 0⟩ else if r = 10 then ⟨3, 0, 0⟩ else .none, fun _ => .none, cells, []⟩
theorem MOk.init (cells : Nat → Int) : MOk (Mach.init cells) := by
  refine ⟨fun r => ?_, fun s => VOk.none⟩
  unfold Mach.init
  simp only
  split
  · exact ⟨by simp, by simp⟩
  split
  · exact ⟨by simp, by simp⟩
  · exact VOk.none
theorem from_ok {S : Nat → Step} {n : Nat} : ∀ (k i : Nat), i + k = n → (from_ S n i k).1 = 0 → ∀ j, i ≤ j → j < n → at_ S n j = 0
  | 0, i, hk, _, j, h1, h2 => by omega
  | k + 1, i, hk, h, j, h1, h2 => by
    unfold from_ at h
    by_cases ha : at_ S n i = 0
    · rw [if_neg (by simp [ha])] at h
      by_cases e : j = i
      · subst e; exact ha
      · exact from_ok k (i + 1) (by omega) h j (by omega) h2
    · rw [if_pos ha] at h
      exact absurd h ha
theorem at_ok {S : Nat → Step} {n j : Nat} (h : at_ S n j = 0) : (S j).wrong = 0 ∧ ((S j).leads → 0 ≤ (S j).off ∧ (S j).off < (n : Int) - 1 - j) ∧ (j + 1 = n → (S j).code = 28) := by
  unfold at_ at h
  by_cases h1 : (S j).wrong = 0
  · rw [if_neg (by simp [h1])] at h
    by_cases h2 : (S j).leads ∧ ((S j).off < 0 ∨ (S j).off ≥ (n : Int) - 1 - j)
    · rw [if_pos h2] at h; simp at h
    · rw [if_neg h2] at h
      refine ⟨h1, fun hl => ?_, fun hj => ?_⟩
      · by_cases h3 : 0 ≤ (S j).off ∧ (S j).off < (n : Int) - 1 - j
        · exact h3
        · exact absurd ⟨hl, by omega⟩ h2
      · by_cases h4 : (S j).code = 28
        · exact h4
        · rw [if_pos ⟨hj, h4⟩] at h; simp at h
  · rw [if_pos h1] at h; exact absurd h h1
theorem wrong_ok {t : Step} (h : t.wrong = 0) : (1 ≤ t.code ∧ t.code ≤ 28) ∧ (0 ≤ t.dst ∧ t.dst ≤ 10 ∧ 0 ≤ t.src ∧ t.src ≤ 10) ∧ ((t.code ≤ 13 ∨ t.code = 25) → t.dst ≠ 10) ∧ ¬ bad t.code t.dst t.src t.reg t.off t.num := by
  unfold Step.wrong wrong at h
  by_cases h1 : t.code < 1 ∨ 28 < t.code
  · rw [if_pos h1] at h; simp at h
  rw [if_neg h1] at h
  by_cases h2 : t.dst < 0 ∨ 10 < t.dst ∨ t.src < 0 ∨ 10 < t.src
  · rw [if_pos h2] at h; simp at h
  rw [if_neg h2] at h
  by_cases h3 : (t.code ≤ 13 ∨ t.code = 25) ∧ t.dst = 10
  · rw [if_pos h3] at h; simp at h
  rw [if_neg h3] at h
  by_cases h4 : bad t.code t.dst t.src t.reg t.off t.num
  · rw [if_pos h4] at h; simp at h
  exact ⟨by omega, by omega, by omega, h4⟩
end Go.Proofs.YtpdlmbbgioenoaaGreatDoor.P
