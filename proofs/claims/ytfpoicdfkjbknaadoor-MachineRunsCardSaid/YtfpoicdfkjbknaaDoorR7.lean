/- The reference's call by contract. Conditions: the box lies in a block of 109 cells, what was given out in a row of its own. -/
import Derived.Test.YtfpoicdfkjbknaaDoorR6
namespace Go.Proofs.YtfpoicdfkjbknaaDoor.W
open Go.RowKit Go.Proofs.YtfpoicdfkjbknaaDoor.P
set_option linter.unusedSimpArgs false
set_option linter.unusedVariables false

/-- the reference's box in memory -/
def BoxAt (w : World) (b : Nat) (told : Nat → Int) (time num st : Int) (M : Mach) : Prop :=
  ∃ out, Img w b 109 (bimg told time num st out M) ∧ w.ownsRow (b + 1) 2 1 out M.out.length (M.out.map (Value.int .i64))
theorem BoxAt.ge {w : World} {b : Nat} {told : Nat → Int} {time num st : Int} {M : Mach} (h : BoxAt w b told time num st M) : b < w.heap.size := by
  obtain ⟨out, hI, -⟩ := h
  exact hI.lt (by omega)
theorem BoxAt.but {w w' : World} {b : Nat} {told : Nat → Int} {time num' st' : Int} {M M' : Mach} {out : Value} (hO : w.ownsRow (b + 1) 2 1 out M.out.length (M.out.map (Value.int .i64))) (hB : But b w w') (hI : Img w' b 109 (bimg told time num' st' out M')) (ho : M'.out = M.out) : BoxAt w' b told time num' st' M' := by
  refine ⟨out, hI, ?_⟩
  rw [ho]
  exact hO.kept hB.grown (by have := hO.lt; cases hv : out.ownBlock with | none => exact .inl rfl | some g => (right; intro e; have := (this g hv).1; injection e; omega))
theorem BoxAt.later {w w' : World} {b : Nat} {told : Nat → Int} {time num st : Int} {M : Mach} (h : BoxAt w b told time num st M) (hb : Below w.heap.size w w') : BoxAt w' b told time num st M := by
  obtain ⟨out, hI, hO⟩ := h
  exact BoxAt.but hO (But.of hb) (hI.later hb (hI.lt (by omega))) rfl

theorem RefCall_any (b : Nat) (told : Nat → Int) (time num st : Int) (M : Mach) (w : World) (hM : BoxAt w b told time num st M) (hv : VOk (M.regs 1)) (n : Int) (hn : n = 1 ∨ n = 2 ∨ n = 3) :
    Calls Tryd.prog 41 #[.pointer (some ⟨b, 0, none⟩), .int .i64 n] w fun e w' => e = .returned (.int .i64 (M.call time n).2) ∧ BoxAt w' b told time num st (M.call time n).1 ∧ Below b w w' := by
  have hlt := hM.ge
  have hM0 := hM
  obtain ⟨out, hI, hO⟩ := hM
  by_cases h : n ≠ 2 ∧ (M.regs 1).kind ≠ 1
  · have e : M.call time n = (M, if (M.regs 1).kind = 0 then 8 else 1) := by
      unfold Mach.call
      by_cases k0 : (M.regs 1).kind = 0
      · rw [if_pos ⟨h.1, k0⟩, if_pos k0]
      · rw [if_neg (fun x => k0 x.2), if_pos h, if_neg k0]
    rw [e]
    exact (RefCall_err b told time num st out M w hI n h.1 hv h.2).mono fun e w' ⟨he, hb⟩ => ⟨he, hM0.later hb, hb.mono (Nat.le_of_lt hlt)⟩
  · have e0 : (M.call time n).2 = 0 := by
      unfold Mach.call
      rw [if_neg (by omega), if_neg h]
    rw [e0]
    have eo : n ≠ 3 → (M.call time n).1.out = M.out := by
      intro h3
      unfold Mach.call
      rw [if_neg (by omega), if_neg h]
      simp only
      rw [if_neg (by omega)]
    rcases hn with rfl | rfl | rfl
    · have k1 : (M.regs 1).kind = 1 := by omega
      by_cases r0 : (M.regs 1).n < 0
      · exact (RefCall_low b told time num st out M w hI _ _ _ rfl k1 r0).mono fun e w' ⟨he, hi, hb⟩ => ⟨he, BoxAt.but hO hb hi (eo (by decide)), hb.below (Nat.le_of_lt hlt)⟩
      · by_cases r4 : 4 ≤ (M.regs 1).n
        · exact (RefCall_high b told time num st out M w hI _ _ _ rfl k1 r4).mono fun e w' ⟨he, hi, hb⟩ => ⟨he, BoxAt.but hO hb hi (eo (by decide)), hb.below (Nat.le_of_lt hlt)⟩
        · have r5 : 0 ≤ (M.regs 1).n ∧ (M.regs 1).n < 4 := by omega
          exact (RefCall_find b told time num st out M w hI _ _ _ rfl k1 r5).mono fun e w' ⟨he, hi, hb⟩ => ⟨he, BoxAt.but hO hb hi (eo (by decide)), hb.below (Nat.le_of_lt hlt)⟩
    · exact (RefCall_time b told time num st out M w hI _ _ _ rfl).mono fun e w' ⟨he, hi, hb⟩ => ⟨he, BoxAt.but hO hb hi (eo (by decide)), hb.below (Nat.le_of_lt hlt)⟩
    · have k1 : (M.regs 1).kind = 1 := by omega
      obtain ⟨og, ocap, rfl⟩ := own_slice' hO
      exact (RefCall_emit b told time num st M og ocap w hI _ _ _ rfl k1 hO).mono fun e w' ⟨he, hi, hb⟩ => ⟨he, hi, hb⟩
end Go.Proofs.YtfpoicdfkjbknaaDoor.W
