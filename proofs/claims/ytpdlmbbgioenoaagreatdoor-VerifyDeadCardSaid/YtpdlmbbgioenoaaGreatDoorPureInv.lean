/- The numbers of a machine that runs are int64's: plain laws. No conditions. -/
import Derived.Test.YtpdlmbbgioenoaaGreatDoorPureRun
namespace Go.Proofs.YtpdlmbbgioenoaaGreatDoor.P
open Go.RowKit
set_option linter.unusedSimpArgs false
set_option linter.unusedVariables false

/-- a value's number is an int64, and a number's cell is 0 -/
def VNum (v : Val) : Prop := In64 v.n ∧ (v.kind = 1 → v.cell = 0)
def MNum (M : Mach) : Prop := (∀ r, VNum (M.regs r)) ∧ (∀ s, VNum (M.slots s)) ∧ (∀ c, In64 (M.cells c))
theorem VNum.none : VNum Val.none := ⟨in64_zero, fun h => by simp [Val.none] at h⟩
theorem VNum.num {n : Int} (h : In64 n) : VNum (.num n) := ⟨h, fun _ => rfl⟩
theorem VNum.upd {f : Nat → Val} (h : ∀ r, VNum (f r)) (i : Nat) {v : Val} (hv : VNum v) : ∀ r, VNum (upd f i v r) := by
  intro r
  by_cases e : r = i
  · subst e; rw [upd_same]; exact hv
  · rw [upd_other e]; exact h r
theorem MNum.load {M : Mach} (h : MNum M) {told : Nat → Int} (ht : ∀ r, In64 (told r)) (v : Val) (o : Int) : VNum (M.load told v o).1 := by
  unfold Mach.load
  split
  · exact VNum.none
  split
  · exact VNum.num (ht _)
  split
  · exact VNum.num (h.2.2 _)
  split
  · exact VNum.none
  · exact h.2.1 _
theorem MNum.second {M : Mach} (h : MNum M) (t : Step) (hn : In64 t.num) : VNum (M.second t) := by
  unfold Mach.second
  split
  · exact h.1 _
  · exact VNum.num hn
theorem MNum.store {M : Mach} (h : MNum M) (v : Val) (o : Int) {x : Val} (hx : VNum x) : MNum (M.store v o x).1 := by
  unfold Mach.store
  repeat' split
  all_goals first
    | exact h
    | exact ⟨h.1, VNum.upd h.2.1 _ hx, h.2.2⟩
    | (refine ⟨h.1, h.2.1, fun c => ?_⟩
       simp only
       by_cases e : c = (v.cell * 4 + (far v o).1).toNat
       · rw [e, upd_same]; exact hx.1
       · rw [upd_other e]; exact h.2.2 c)
theorem MNum.call {M : Mach} (h : MNum M) {time : Int} (ht : In64 time) (n : Int) : MNum (M.call time n).1 := by
  unfold Mach.call
  split
  · exact h
  split
  · exact h
  refine ⟨fun r => ?_, h.2⟩
  simp only
  split
  · split
    · split
      · exact ⟨in64_zero, by simp⟩
      · exact VNum.num in64_zero
    · split
      · exact VNum.num ht
      · exact VNum.num in64_zero
  split
  · exact VNum.none
  · exact h.1 r
theorem VNum.counts {a b : Val} (ha : VNum a) (hb : VNum b) (c : Int) : VNum (vcounts c a b).1 := by
  unfold vcounts
  split
  · exact VNum.none
  split
  · exact hb
  split
  · exact VNum.num (does_in ha.1 hb.1)
  split
  · rename_i h1 h2 h3 h4
    exact ⟨(show In64 (does 2 b.n a.n) from does_in hb.1 ha.1), fun k => absurd ⟨h4.2, k⟩ h3⟩
  split
  · exact VNum.none
  · rename_i h1 h2 h3 h4 h5
    exact ⟨(show In64 (does c a.n b.n) from does_in ha.1 hb.1), ha.2⟩
theorem MNum.setreg {M : Mach} (h : MNum M) (r : Nat) {v : Val} (hv : VNum v) : MNum { M with regs := Go.Proofs.YtpdlmbbgioenoaaGreatDoor.P.upd M.regs r v } := ⟨VNum.upd h.1 _ hv, h.2⟩
theorem MNum.init {cells : Nat → Int} (h : ∀ c, In64 (cells c)) : MNum (Mach.init cells) := by
  refine ⟨fun r => ?_, fun s => VNum.none, h⟩
  unfold Mach.init
  simp only
  split
  · exact ⟨in64_zero, by simp⟩
  split
  · exact ⟨in64_zero, by simp⟩
  · exact VNum.none
/-- one step keeps what holds of a machine -/
theorem step_keeps {M M' : Mach} {told : Nat → Int} {time pc nx : Int} {t : Step} (hO : MOk M) (hN : MNum M) (ht : ∀ r, In64 (told r)) (hm : In64 time) (hn : In64 t.num) (h : M.step told time t pc = .go M' nx) : MOk M' ∧ MNum M' := by
  unfold Mach.step at h
  split at h
  · split at h
    · cases h
    · split at h <;> cases h
  split at h
  · cases h; exact ⟨hO, hN⟩
  split at h
  · split at h
    · cases h
    · split at h
      · cases h; exact ⟨hO, hN⟩
      · cases h; exact ⟨hO, hN⟩
  split at h
  · split at h
    · cases h
    · cases h; exact ⟨hO.setreg _ (hO.load _ _ _), hN.setreg _ (hN.load ht _ _)⟩
  split at h
  · split at h
    · cases h
    · cases h; exact ⟨hO.store _ _ (hO.second _), hN.store _ _ (hN.second _ hn)⟩
  split at h
  · split at h
    · cases h
    · cases h; exact ⟨hO.call _ _, hN.call hm _⟩
  · have hb1 : VOk (if t.code = 13 then Val.num 0 else M.second t) := by split; exact VOk.num 0; exact hO.second _
    have hb2 : VNum (if t.code = 13 then Val.num 0 else M.second t) := by split; exact VNum.num in64_zero; exact hN.second _ hn
    simp only at h
    generalize (if t.code = 13 then Val.num 0 else M.second t) = x at h hb1 hb2
    split at h
    · cases h
    · cases h
      exact ⟨hO.setreg _ ((hO.1 _).counts hb1 _), hN.setreg _ ((hN.1 _).counts hb2 _)⟩
/-- where a step goes on -/
theorem step_next {M M' : Mach} {told : Nat → Int} {time pc nx : Int} {t : Step} (h : M.step told time t pc = .go M' nx) : t.code ≠ 28 ∧ (nx = pc + 1 ∨ (t.leads ∧ nx = pc + 1 + t.off)) := by
  unfold Mach.step at h
  split at h
  · split at h
    · cases h
    · split at h <;> cases h
  rename_i h28
  refine ⟨h28, ?_⟩
  unfold Step.leads
  split at h
  · rename_i h1; cases h; exact .inr ⟨.inl h1, rfl⟩
  split at h
  · rename_i h1 h2
    split at h
    · cases h
    · split at h
      · cases h; exact .inr ⟨.inr h2, rfl⟩
      · cases h; exact .inl rfl
  split at h
  · split at h
    · cases h
    · cases h; exact .inl rfl
  split at h
  · split at h
    · cases h
    · cases h; exact .inl rfl
  split at h
  · split at h
    · cases h
    · cases h; exact .inl rfl
  · simp only at h
    generalize (if t.code = 13 then Val.num 0 else M.second t) = x at h
    split at h
    · cases h
    · cases h; exact .inl rfl
end Go.Proofs.YtpdlmbbgioenoaaGreatDoor.P
