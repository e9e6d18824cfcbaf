/- The programs that 'let' and 'runs' read, and what comes of them: plain. No conditions. -/
import Derived.Test.YtpdlmbbgioenoaaGreatDoorPureConst
import Derived.Test.YtpdlmbbgioenoaaGreatDoorPureSound
namespace Go.Proofs.YtpdlmbbgioenoaaGreatDoor.P
set_option linter.unusedSimpArgs false
set_option linter.unusedVariables false

def tLet : List UInt8 := [108, 111, 97, 100, 32, 114, 50, 32, 91, 114, 49, 43, 48, 93, 59, 32, 106, 103, 101, 32, 114, 50, 32, 56, 32, 50, 59, 32, 97, 100, 100, 32, 114, 49, 32, 114, 50, 59, 32, 108, 111, 97, 100, 32, 114, 50, 32, 91, 114, 49, 43, 48, 93, 59, 32, 109, 111, 118, 32, 114, 48, 32, 51, 59, 32, 101, 120, 105, 116]
def tNot : List UInt8 := [108, 111, 97, 100, 32, 114, 50, 32, 91, 114, 49, 43, 48, 93, 59, 32, 97, 100, 100, 32, 114, 49, 32, 114, 50, 59, 32, 108, 111, 97, 100, 32, 114, 50, 32, 91, 114, 49, 43, 48, 93, 59, 32, 109, 111, 118, 32, 114, 48, 32, 51, 59, 32, 101, 120, 105, 116]
def tRuns : List UInt8 := [108, 111, 97, 100, 32, 114, 48, 32, 91, 114, 49, 43, 51, 93, 59, 32, 97, 100, 100, 32, 114, 48, 32, 49, 59, 32, 101, 120, 105, 116]
def pLet : List Step := [⟨25, 2, 1, false, 0, 0⟩, ⟨18, 2, 0, false, 2, 8⟩, ⟨2, 1, 2, true, 0, 0⟩, ⟨25, 2, 1, false, 0, 0⟩, ⟨1, 0, 0, false, 0, 3⟩, ⟨28, 0, 0, false, 0, 0⟩]
def pNot : List Step := [⟨25, 2, 1, false, 0, 0⟩, ⟨2, 1, 2, true, 0, 0⟩, ⟨25, 2, 1, false, 0, 0⟩, ⟨1, 0, 0, false, 0, 3⟩, ⟨28, 0, 0, false, 0, 0⟩]
def pRuns : List Step := [⟨25, 0, 1, false, 3, 0⟩, ⟨2, 0, 0, false, 0, 1⟩, ⟨28, 0, 0, false, 0, 0⟩]
theorem words_let : pLet.map words = [[nm 25, [114, 50], [91, 114, 49, 43, 48, 93]], [nm 18, [114, 50], [56], [50]], [nm 2, [114, 49], [114, 50]], [nm 25, [114, 50], [91, 114, 49, 43, 48, 93]], [nm 1, [114, 48], [51]], [nm 28]] := by
  simp only [pLet, List.map_cons, List.map_nil, wd_load, wd_ask (c := 18) ⟨by decide, by decide⟩, wd_make (c := 1) (by decide), wd_make (c := 2) (by decide), wd_exit, plc, rg, sec, num_0, num_1, num_2, num_3, num_8]
  rfl
theorem words_not : pNot.map words = [[nm 25, [114, 50], [91, 114, 49, 43, 48, 93]], [nm 2, [114, 49], [114, 50]], [nm 25, [114, 50], [91, 114, 49, 43, 48, 93]], [nm 1, [114, 48], [51]], [nm 28]] := by
  simp only [pNot, List.map_cons, List.map_nil, wd_load, wd_make (c := 1) (by decide), wd_make (c := 2) (by decide), wd_exit, plc, rg, sec, num_0, num_1, num_2, num_3, num_8]
  rfl
theorem words_runs : pRuns.map words = [[nm 25, [114, 48], [91, 114, 49, 43, 51, 93]], [nm 2, [114, 48], [49]], [nm 28]] := by
  simp only [pRuns, List.map_cons, List.map_nil, wd_load, wd_make (c := 2) (by decide), wd_exit, plc, rg, sec, num_0, num_1, num_2, num_3, num_8]
  rfl
theorem ok_let : ∀ t ∈ pLet, t.wrong = 0 ∧ In64 t.off ∧ In64 t.num := by
  intro t ht
  simp only [pLet, List.mem_cons, List.not_mem_nil, or_false] at ht
  rcases ht with rfl | rfl | rfl | rfl | rfl | rfl
  all_goals exact ⟨by decide, in_small (by decide) (by decide), in_small (by decide) (by decide)⟩
theorem ok_not : ∀ t ∈ pNot, t.wrong = 0 ∧ In64 t.off ∧ In64 t.num := by
  intro t ht
  simp only [pNot, List.mem_cons, List.not_mem_nil, or_false] at ht
  rcases ht with rfl | rfl | rfl | rfl | rfl
  all_goals exact ⟨by decide, in_small (by decide) (by decide), in_small (by decide) (by decide)⟩
theorem ok_runs : ∀ t ∈ pRuns, t.wrong = 0 ∧ In64 t.off ∧ In64 t.num := by
  intro t ht
  simp only [pRuns, List.mem_cons, List.not_mem_nil, or_false] at ht
  rcases ht with rfl | rfl | rfl
  all_goals exact ⟨by decide, in_small (by decide) (by decide), in_small (by decide) (by decide)⟩
theorem rread_let : rread tLet = ((0, -1), pLet) := rread_by (by rw [words_let]; decide) ok_let (by decide)
theorem rread_not : rread tNot = ((0, -1), pNot) := rread_by (by rw [words_not]; decide) ok_not (by decide)
theorem rread_runs : rread tRuns = ((0, -1), pRuns) := rread_by (by rw [words_runs]; decide) ok_runs (by decide)
theorem verify_let : verify (nth pLet) 6 = ((0, -1), bone 3) := by decide +kernel
theorem verify_not : (verify (nth pNot) 5).1.1 = 2 := by decide +kernel
def told8 : Nat → Int := fun i => if i = 3 then 8 else 0
theorem run_runs : ∃ M, Mach.run (nth pRuns) told8 0 3 (Mach.init fun _ => 0) 0 1 = .inr (M, 9, 3) := by
  have h : (match Mach.run (nth pRuns) told8 0 3 (Mach.init fun _ => 0) 0 1 with | .inr (_, n, s) => n == 9 && s == 3 | .inl _ => false) = true := by decide +kernel
  generalize Mach.run (nth pRuns) told8 0 3 (Mach.init fun _ => 0) 0 1 = r at h ⊢
  rcases r with r | ⟨M, n, s⟩
  · simp at h
  · simp only [Bool.and_eq_true, beq_iff_eq] at h
    obtain ⟨rfl, rfl⟩ := h
    exact ⟨M, rfl⟩
theorem call_out {M : Mach} (time n : Int) (h : M.out.length ≤ 50) : (M.call time n).1.out.length ≤ 50 := by
  unfold Mach.call
  split
  · exact h
  split
  · exact h
  · simp only
    split
    · simp; omega
    · exact h
theorem store_out (M : Mach) (v : Val) (o : Int) (x : Val) : (M.store v o x).1.out = M.out := by
  unfold Mach.store
  repeat' split
  all_goals rfl
def outOk : Res → Prop
  | .done M _ => M.out.length ≤ 50
  | .err _ => True
  | .go M _ => M.out.length ≤ 50
theorem step_out {M : Mach} {told : Nat → Int} {time : Int} {t : Step} {pc : Int} (h : M.out.length ≤ 50) : outOk (M.step told time t pc) := by
  have h1 := store_out M (M.regs t.dst.toNat) t.off (M.second t)
  have h2 := call_out time t.num h
  unfold Mach.step
  simp only
  repeat' split
  all_goals first | exact h | exact h2 | (show _ ≤ 50; rw [h1]; exact h) | exact True.intro
theorem run_out (S : Nat → Step) (told : Nat → Int) (time : Int) : ∀ (k : Nat) (M : Mach) (pc st : Int) {M' : Mach} {n st' : Int}, M.out.length ≤ 50 → Mach.run S told time k M pc st = .inr (M', n, st') → M'.out.length ≤ 50
  | 0, _, _, _, _, _, _, _, h => by simp [Mach.run] at h
  | k + 1, M, pc, st, M', n, st', h0, h => by
    have hs := step_out (told := told) (time := time) (t := S pc.toNat) (pc := pc) h0
    rw [Mach.run] at h
    generalize M.step told time (S pc.toNat) pc = R at h hs
    cases R with
    | done M1 n1 => simp only [Sum.inr.injEq, Prod.mk.injEq] at h; obtain ⟨rfl, -⟩ := h; exact hs
    | err e => simp at h
    | go M1 nx => exact run_out S told time k M1 nx (st + 1) hs h
theorem verify_bad {S : Nat → Step} {n : Nat} (h : (verify S n).1.1 ≠ 0) : (verify S n).2 = bnil := by
  unfold verify at h ⊢
  split
  · rfl
  · rw [if_neg (by assumption)] at h
    split
    · rfl
    · rw [if_neg (by assumption)] at h; exact absurd rfl h
/-- what Verify lets go runs -/
theorem verify_good {S : Nat → Step} {n : Nat} (h : (verify S n).1.1 = 0) : (check S n).1 = 0 ∧ (vrun S n).1.1 = 0 ∧ (verify S n).2 = outOf (vrun S n).2.ends := by
  unfold verify at h ⊢
  by_cases h1 : (check S n).1 = 0
  · rw [if_neg (by simp [h1])] at h ⊢
    by_cases h2 : (vrun S n).1.1 = 0
    · rw [if_neg (by simp [h2])]; exact ⟨h1, h2, rfl⟩
    · rw [if_pos h2] at h; exact absurd h h2
  · rw [if_pos h1] at h; exact absurd h h1
end Go.Proofs.YtpdlmbbgioenoaaGreatDoor.P
