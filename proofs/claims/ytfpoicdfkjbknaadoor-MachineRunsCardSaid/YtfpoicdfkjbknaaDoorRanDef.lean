/- What machine.Run is given and gives back, as values. No conditions. -/
import Derived.Test.YtfpoicdfkjbknaaDoorWalkCheck
import Derived.Test.YtfpoicdfkjbknaaDoorPureRun
import Derived.Test.YtfpoicdfkjbknaaDoorRanRow
namespace Go.Proofs.YtfpoicdfkjbknaaDoor.W
open Go.RowKit Go.Proofs.YtfpoicdfkjbknaaDoor.P
set_option linter.unusedSimpArgs false
set_option linter.unusedVariables false

/-- words, as one value -/
def words8 (f : Nat → Int) : Value := .agg #[.int .i64 (f 0), .int .i64 (f 1), .int .i64 (f 2), .int .i64 (f 3), .int .i64 (f 4), .int .i64 (f 5), .int .i64 (f 6), .int .i64 (f 7)]
def words16 (f : Nat → Int) : Value := .agg #[.int .i64 (f 0), .int .i64 (f 1), .int .i64 (f 2), .int .i64 (f 3), .int .i64 (f 4), .int .i64 (f 5), .int .i64 (f 6), .int .i64 (f 7), .int .i64 (f 8), .int .i64 (f 9), .int .i64 (f 10), .int .i64 (f 11), .int .i64 (f 12), .int .i64 (f 13), .int .i64 (f 14), .int .i64 (f 15)]
/-- an empty Ran's cells -/
def ranz : Nat → Value := fun j => if j = 17 then .slice none 0 0 else .int .i64 0
theorem ErrIs.nil {w : World} {v : Value} {p : Int} (h : ErrIs w v 0 p) : v = .nilIface := by
  rcases h with ⟨h, -, -⟩ | ⟨h, -⟩ | ⟨h, -⟩
  · exact h
  · exact absurd rfl h
  · exact absurd rfl h
theorem Img.mk' {w : World} {b n : Nat} {c : Array Value} {t : TypeId} {I : Nat → Value} (hb : w.heap[b]? = some (.cells c t (0, 0))) (e : c.toList = (List.range n).map I) : Img w b n I := by
  have hs : c.size = n := by rw [← Array.length_toList, e]; simp
  refine Img.of_cells hb hs.symm fun j hj => ?_
  rw [← Array.getElem?_toList, e]
  simp [hj]
/-- what came of a program, as values: the machine's answer -/
def RanIs (w : World) (v err : Value) : (Int × Int) ⊕ (Mach × Int × Int) → Prop
  | .inl (e, p) => v = .agg #[.int .i64 0, .int .i64 0, .int .i64 0, .int .i64 0, .int .i64 0, .int .i64 0, .int .i64 0, .int .i64 0, .int .i64 0, .int .i64 0, .int .i64 0, .int .i64 0, .int .i64 0, .int .i64 0, .int .i64 0, .int .i64 0, .int .i64 0, .slice none 0 0, .int .i64 0] ∧ ErrIs w err e p ∧ e ≠ 0
  | .inr (M, num, st) => ∃ out, v = .agg #[.int .i64 num, .int .i64 (M.cells 0), .int .i64 (M.cells 1), .int .i64 (M.cells 2), .int .i64 (M.cells 3), .int .i64 (M.cells 4), .int .i64 (M.cells 5), .int .i64 (M.cells 6), .int .i64 (M.cells 7), .int .i64 (M.cells 8), .int .i64 (M.cells 9), .int .i64 (M.cells 10), .int .i64 (M.cells 11), .int .i64 (M.cells 12), .int .i64 (M.cells 13), .int .i64 (M.cells 14), .int .i64 (M.cells 15), out, .int .i64 st] ∧ err = .nilIface ∧ ∃ B, w.ownsRow B 2 1 out M.out.length (M.out.map (Value.int .i64))
theorem there_img {w : World} {g n : Nat} {I : Nat → Value} (h : Img w g n I) : w.there g 0 n := fun j hj => ⟨by rw [Nat.zero_add, h.cell j hj]; rfl, by rw [Nat.zero_add]; exact h.free j hj⟩
theorem ErrIs.setZero {w : World} {v : Value} {n p : Int} {g : Nat} {vs : List Value} (h : ErrIs w v n p) (hI : Img w g 19 ranz) : ErrIs (w.setCells g 0 vs) v n p := by
  rcases h with h | h | ⟨hne, b, hv, h0, h1⟩
  · exact .inl h
  · exact .inr (.inl h)
  · have hbg : b ≠ g := by
      rintro rfl
      have := hI.cell 0 (by omega)
      rw [h0] at this
      simp [ranz] at this
      exact hne this
    have B := but_setCells (b := g) vs 0 w w (But.refl _ _)
    exact .inr (.inr ⟨hne, b, hv, B.cell h0 hbg, B.cell h1 hbg⟩)
theorem ErrIs.iface {w : World} {v : Value} {n p : Int} (h : ErrIs w v n p) (hn : n ≠ 0) : ∃ t x, v = .iface t x := by
  rcases h with ⟨-, h, -⟩ | ⟨-, h, -⟩ | ⟨-, b, h, -⟩
  · exact absurd h hn
  · exact ⟨_, _, h⟩
  · exact ⟨_, _, h⟩
end Go.Proofs.YtfpoicdfkjbknaaDoor.W
