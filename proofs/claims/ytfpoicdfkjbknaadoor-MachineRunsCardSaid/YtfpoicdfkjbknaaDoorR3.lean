/- The reference's counts by contract. Conditions: the box lies in a block of 109 cells; the values may stand in a machine, their numbers are int64's. -/
import Derived.Test.YtfpoicdfkjbknaaDoorR2
namespace Go.Proofs.YtfpoicdfkjbknaaDoor.W
open Go.RowKit Go.Proofs.YtfpoicdfkjbknaaDoor.P
set_option linter.unusedSimpArgs false
set_option linter.unusedVariables false

theorem kl_0 {k : Int} (h : k = 0 ∨ k = 1 ∨ k = 2 ∨ k = 3 ∨ k = 4) : (kl k == 0) = (k == 0) := by rcases h with rfl | rfl | rfl | rfl | rfl <;> rfl
theorem kl_110 {k : Int} (h : k = 0 ∨ k = 1 ∨ k = 2 ∨ k = 3 ∨ k = 4) : (kl k == 110) = (k == 1) := by rcases h with rfl | rfl | rfl | rfl | rfl <;> rfl

def RCounts (b : Nat) (told : Nat → Int) (time num st : Int) (out : Value) (M : Mach) (w : World) (c : Int) (r : Nat) (y : Val) (p : Value) (v : Val × Int) : Prop :=
    Calls Tryd.prog 42 #[p, .int .i64 c, .pointer (some ⟨b, r * 3, none⟩), .agg #[.int .u8 (kl y.kind), .int .i64 y.n, .int .i64 y.cell]] w fun e w' =>
      e = .returned (.int .i64 v.2) ∧ Img w' b 109 (bimg told time num st out (if v.2 = 0 then { M with regs := upd M.regs r v.1 } else M)) ∧ But b w w'
theorem RefCounts_any (b : Nat) (told : Nat → Int) (time num st : Int) (out : Value) (M : Mach) (w : World) (hI : Img w b 109 (bimg told time num st out M)) (c : Int) (r : Nat) (hr : r < 11) (y : Val) (hx : VOk (M.regs r)) (hy : VOk y) (ix : In64 (M.regs r).n) (iy : In64 y.n) (hc0 : (M.regs r).kind = 1 → (M.regs r).cell = 0) (p : Value) :
    RCounts b told time num st out M w c r y p (vcounts c (M.regs r) y) := by
  have hlt := hI.lt (by omega)
  have h0 : bimg told time num st out M (r * 3) = .int .u8 (kl (M.regs r).kind) := by rw [bimg_at (by omega : r < 27) (by omega : 0 < 3) (by omega), at_reg hr]; rfl
  have h1 : bimg told time num st out M (r * 3 + 1) = .int .i64 (M.regs r).n := by rw [bimg_at (by omega : r < 27) (by omega : 1 < 3) (by omega), at_reg hr]; rfl
  have h2 : bimg told time num st out M (r * 3 + 2) = .int .i64 (M.regs r).cell := by rw [bimg_at (by omega : r < 27) (by omega : 2 < 3) (by omega), at_reg hr]; rfl
  have kx0 := kl_0 hx.1; have kx1 := kl_110 hx.1; have ky0 := kl_0 hy.1; have ky1 := kl_110 hy.1
  have same : ∀ (er : Int) (v : Val), er ≠ 0 → ((y.kind = 0 ∧ er = 8) ∨ (y.kind ≠ 0 ∧ (M.regs r).kind = 0 ∧ c ≠ 1 ∧ er = 8) ∨
      (y.kind ≠ 0 ∧ (M.regs r).kind ≠ 0 ∧ c ≠ 1 ∧ ((M.regs r).kind ≠ 1 ∨ y.kind ≠ 1) ∧ (c ≠ 2 ∨ (M.regs r).kind ≠ 1) ∧ (y.kind ≠ 1 ∨ (c ≠ 2 ∧ c ≠ 3)) ∧ er = 1)) → RCounts b told time num st out M w c r y p (v, er) := fun er v he hc => by
    have := RefCounts_err b 109 _ (r * 3) (by omega) w hI c (kl (M.regs r).kind) (M.regs r).n (M.regs r).cell (kl y.kind) y.n y.cell er h0 h1 h2 p (by
      rw [kx0, kx1, ky0, ky1]
      simp only [beq_iff_eq, beq_eq_false_iff_ne]
      exact hc)
    refine this.mono fun e w' ⟨h, hb⟩ => ⟨h, ?_, But.of hb⟩
    simp only [if_neg he]
    exact hI.later hb hlt
  have three : ∀ m : Int, ((y.kind ≠ 0 ∧ c = 1 ∧ m = y.n) ∨ (y.kind ≠ 0 ∧ (M.regs r).kind = 1 ∧ y.kind ≠ 1 ∧ c = 2 ∧ m = wrap64 (y.n + (M.regs r).n))) → RCounts b told time num st out M w c r y p (⟨y.kind, m, y.cell⟩, 0) := fun m hc => by
    have := RefCounts_three b 109 _ (r * 3) (by omega) w hI c (kl (M.regs r).kind) (M.regs r).n (M.regs r).cell (kl y.kind) y.n y.cell m h0 h1 h2 p (by
      rw [kx1, ky0, ky1]
      simp only [beq_iff_eq, beq_eq_false_iff_ne]
      exact hc)
    refine this.mono fun e w' ⟨h, hb⟩ => ⟨h, ?_, ((((But.refl b w).setCell (.inl rfl) _).setCell (.inl rfl) _).setCell (.inl rfl) _).trans (But.of (by simpa using hb))⟩
    simp only [if_true]
    exact Img.later (hI.bsetReg hr ⟨y.kind, m, y.cell⟩ rfl rfl rfl) hb hlt
  have one : ∀ m : Int, y.kind = 1 → (((M.regs r).kind = 1 ∧ c ≠ 1 ∧ m = P.does c (M.regs r).n y.n) ∨ ((M.regs r).kind ≠ 1 ∧ (M.regs r).kind ≠ 0 ∧ c = 2 ∧ m = wrap64 ((M.regs r).n + y.n)) ∨ ((M.regs r).kind ≠ 1 ∧ (M.regs r).kind ≠ 0 ∧ c = 3 ∧ m = wrap64 ((M.regs r).n - y.n))) → RCounts b told time num st out M w c r y p (⟨(M.regs r).kind, m, (M.regs r).cell⟩, 0) := fun m ty hc => by
    have := RefCounts_num b 109 _ (r * 3) (by omega) w hI c (kl (M.regs r).kind) (M.regs r).n (M.regs r).cell (kl y.kind) y.n y.cell m h0 h1 h2 p ix iy (by rw [ky1, beq_iff_eq]; exact ty) (by
      rw [kx1, kx0]
      simp only [beq_iff_eq, beq_eq_false_iff_ne]
      exact hc)
    refine this.mono fun e w' ⟨h, hb⟩ => ⟨h, ?_, ((But.refl b w).setCell (.inl rfl) _).trans (But.of (by simpa using hb))⟩
    simp only [if_true]
    exact Img.later (hI.bsetRegN hr m rfl) hb hlt
  unfold vcounts
  by_cases a0 : y.kind = 0 ∨ ((M.regs r).kind = 0 ∧ c ≠ 1)
  · rw [if_pos a0]
    exact same 8 _ (by decide) (by omega)
  rw [if_neg a0]
  by_cases a1 : c = 1
  · rw [if_pos a1]
    exact three y.n (.inl ⟨by omega, a1, rfl⟩)
  rw [if_neg a1]
  by_cases a2 : (M.regs r).kind = 1 ∧ y.kind = 1
  · rw [if_pos a2]
    have := one _ a2.2 (.inl ⟨a2.1, a1, rfl⟩)
    rw [a2.1, hc0 a2.1] at this
    exact this
  rw [if_neg a2]
  by_cases a3 : c = 2 ∧ (M.regs r).kind = 1
  · rw [if_pos a3]
    exact three _ (.inr ⟨by omega, a3.2, by omega, a3.1, rfl⟩)
  rw [if_neg a3]
  by_cases a4 : y.kind ≠ 1 ∨ (c ≠ 2 ∧ c ≠ 3)
  · rw [if_pos a4]
    exact same 1 _ (by decide) (.inr (.inr ⟨by omega, by omega, a1, by omega, by omega, a4, rfl⟩))
  rw [if_neg a4]
  by_cases a5 : c = 2
  · subst a5
    exact one _ (by omega) (.inr (.inl ⟨by omega, by omega, rfl, rfl⟩))
  · obtain rfl : c = 3 := by omega
    exact one _ (by omega) (.inr (.inr ⟨by omega, by omega, rfl, rfl⟩))
end Go.Proofs.YtfpoicdfkjbknaaDoor.W
