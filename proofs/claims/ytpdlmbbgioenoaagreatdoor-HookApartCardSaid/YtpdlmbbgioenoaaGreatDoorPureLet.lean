/- A part of the proof; each theorem states its conditions. -/
import Derived.Test.YtpdlmbbgioenoaaGreatDoorPureConst
import Derived.Test.YtpdlmbbgioenoaaGreatDoorOneVer
set_option linter.unusedSimpArgs false
set_option linter.unusedVariables false
namespace Go.Proofs.YtpdlmbbgioenoaaGreatDoor.P
theorem call_out {M : Mach} (time n : Int) (h : M.out.length ≤ 50) : (M.call time n).1.out.length ≤ 50 := by
  unfold Mach.call
  split
  · exact h
  split
  · exact h
  · simp only
    split
    · simp; omega
    · exact h
theorem store_out (M : Mach) (v : Val) (o : Int) (x : Val) : (M.store v o x).1.out = M.out := by
  unfold Mach.store
  repeat' split
  all_goals rfl
def outOk : Res → Prop
  | .done M _ => M.out.length ≤ 50
  | .err _ => True
  | .go M _ => M.out.length ≤ 50
theorem step_out {M : Mach} {told : Nat → Int} {time : Int} {t : Step} {pc : Int} (h : M.out.length ≤ 50) : outOk (M.step told time t pc) := by
  have h1 := store_out M (M.regs t.dst.toNat) t.off (M.second t)
  have h2 := call_out time t.num h
  unfold Mach.step
  simp only
  repeat' split
  all_goals first | exact h | exact h2 | (show _ ≤ 50; rw [h1]; exact h) | exact True.intro
theorem run_out (S : Nat → Step) (told : Nat → Int) (time : Int) : ∀ (k : Nat) (M : Mach) (pc st : Int) {M' : Mach} {n st' : Int}, M.out.length ≤ 50 → Mach.run S told time k M pc st = .inr (M', n, st') → M'.out.length ≤ 50
  | 0, _, _, _, _, _, _, _, h => by simp [Mach.run] at h
  | k + 1, M, pc, st, M', n, st', h0, h => by
    have hs := step_out (told := told) (time := time) (t := S pc.toNat) (pc := pc) h0
    rw [Mach.run] at h
    generalize M.step told time (S pc.toNat) pc = R at h hs
    cases R with
    | done M1 n1 => simp only [Sum.inr.injEq, Prod.mk.injEq] at h; obtain ⟨rfl, -⟩ := h; exact hs
    | err e => simp at h
    | go M1 nx => exact run_out S told time k M1 nx (st + 1) hs h
end Go.Proofs.YtpdlmbbgioenoaaGreatDoor.P
