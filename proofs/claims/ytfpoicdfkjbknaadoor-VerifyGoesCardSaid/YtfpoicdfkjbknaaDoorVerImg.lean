/- What is known ahead of a step as a block of 81 cells: 11 registers, 16 slots, each three cells. No conditions. -/
import Derived.Test.YtfpoicdfkjbknaaDoorPureVer
import Derived.Deep.MidRow
namespace Go.Proofs.YtfpoicdfkjbknaaDoor.P
open Go.RowKit
set_option linter.unusedSimpArgs false
set_option linter.unusedVariables false

/-- a datum's three cells, as verify has them -/
def wcell (w : Wh) (k : Nat) : Value := .int .i64 (if k = 0 then w.kind else if k = 1 then w.b.lo else w.b.hi)
theorem wcell_0 (v : Wh) : wcell v 0 = .int .i64 v.kind := rfl
theorem wcell_1 (v : Wh) : wcell v 1 = .int .i64 v.b.lo := rfl
theorem wcell_2 (v : Wh) : wcell v 2 = .int .i64 v.b.hi := rfl
/-- a kind's letter, as the reference has it -/
def letter (k : Int) : Int := if k = 0 then 0 else if k = 1 then 110 else if k = 2 then 116 else if k = 3 then 102 else if k = 4 then 99 else 109
def rwcell (w : Wh) (k : Nat) : Value := if k = 0 then .int .u8 (letter w.kind) else .int .i64 (if k = 1 then w.b.lo else w.b.hi)
theorem rwcell_0 (v : Wh) : rwcell v 0 = .int .u8 (letter v.kind) := rfl
theorem rwcell_1 (v : Wh) : rwcell v 1 = .int .i64 v.b.lo := rfl
theorem rwcell_2 (v : Wh) : rwcell v 2 = .int .i64 v.b.hi := rfl
/-- the block's cells -/
def simg (c : Wh → Nat → Value) (s : VS) : Nat → Value := fun j => if j < 33 then c (s.regs (j / 3)) (j % 3) else c (s.slots ((j - 33) / 3)) ((j - 33) % 3)
def scells (c : Wh → Nat → Value) (s : VS) : List Value := (List.range 81).map (simg c s)
theorem scells_length (c : Wh → Nat → Value) (s : VS) : (scells c s).length = 81 := by simp [scells]
theorem scells_at {c : Wh → Nat → Value} {s : VS} {j : Nat} (h : j < 81) : (scells c s)[j]? = some (simg c s j) := by simp [scells, h]

variable {c : Wh → Nat → Value} {s : VS}
theorem simg_reg {r k j : Nat} (hr : r < 11) (hk : k < 3) (hj : j = r * 3 + k) : simg c s j = c (s.regs r) k := by
 subst hj; unfold simg
 rw [if_pos (by omega), show (r * 3 + k) / 3 = r by omega, show (r * 3 + k) % 3 = k by omega]
theorem simg_slot {r k j : Nat} (hr : r < 16) (hk : k < 3) (hj : j = 33 + r * 3 + k) : simg c s j = c (s.slots r) k := by
 subst hj; unfold simg
 rw [if_neg (by omega), show (33 + r * 3 + k - 33) / 3 = r by omega, show (33 + r * 3 + k - 33) % 3 = k by omega]
theorem simg_setreg {r : Nat} (hr : r < 11) (v : Wh) : ∀ j, j < 81 → upd (upd (upd (simg c s) (r * 3) (c v 0)) (r * 3 + 1) (c v 1)) (r * 3 + 2) (c v 2) j = simg c { s with regs := upd s.regs r v } j := by
 intro j hj
 by_cases h2 : j = r * 3 + 2
 ·rw [simg_reg hr (by omega : 2 < 3) h2, h2, upd_same]; simp [upd_same]
 by_cases h1 : j = r * 3 + 1
 ·rw [simg_reg hr (by omega : 1 < 3) h1, upd_other h2, h1, upd_same]; simp [upd_same]
 by_cases h0 : j = r * 3
 ·rw [simg_reg hr (by omega : 0 < 3) (by omega), upd_other h2, upd_other h1, h0, upd_same]; simp [upd_same]
 rw [upd_other h2, upd_other h1, upd_other h0]
 unfold simg
 simp only
 split
 ·rw [upd_other (by omega)]
 ·rfl
theorem simg_setslot {r : Nat} (hr : r < 16) (v : Wh) : ∀ j, j < 81 → upd (upd (upd (simg c s) (33 + r * 3) (c v 0)) (33 + r * 3 + 1) (c v 1)) (33 + r * 3 + 2) (c v 2) j = simg c { s with slots := upd s.slots r v } j := by
 intro j hj
 by_cases h2 : j = 33 + r * 3 + 2
 ·rw [simg_slot hr (by omega : 2 < 3) h2, h2, upd_same]; simp [upd_same]
 by_cases h1 : j = 33 + r * 3 + 1
 ·rw [simg_slot hr (by omega : 1 < 3) h1, upd_other h2, h1, upd_same]; simp [upd_same]
 by_cases h0 : j = 33 + r * 3
 ·rw [simg_slot hr (by omega : 0 < 3) (by omega), upd_other h2, upd_other h1, h0, upd_same]; simp [upd_same]
 rw [upd_other h2, upd_other h1, upd_other h0]
 unfold simg
 simp only
 split
 ·rfl
 ·rw [upd_other (by omega)]
/-- a register's bound alone -/
theorem simg_setat {r : Nat} (hr : r < 11) (b : B) (hc : ∀ v, c v 0 = c ⟨v.kind, b⟩ 0) : ∀ j, j < 81 → upd (upd (simg c s) (r * 3 + 1) (c ⟨(s.regs r).kind, b⟩ 1)) (r * 3 + 2) (c ⟨(s.regs r).kind, b⟩ 2) j = simg c { s with regs := upd s.regs r ⟨(s.regs r).kind, b⟩ } j := by
 intro j hj
 rw [← simg_setreg hr ⟨(s.regs r).kind, b⟩ j hj]
 by_cases h2 : j = r * 3 + 2
 ·rw [h2, upd_same, upd_same]
 by_cases h1 : j = r * 3 + 1
 ·rw [upd_other h2, upd_other h2, h1, upd_same, upd_same]
 rw [upd_other h2, upd_other h2, upd_other h1, upd_other h1]
 by_cases h0 : j = r * 3
 ·rw [h0, upd_same, simg_reg hr (by omega : 0 < 3) (by omega)]; exact hc _
 ·rw [upd_other h0]
/-- the block's cells as a row -/
theorem Img.scells {w : World} {b : Nat} (h : Img w b 81 (simg c s)) : w.rangeAt b 0 (P.scells c s) := by
 intro j v hv
 have hj : j < 81 := by have := (List.getElem?_eq_some_iff.1 hv).1; rwa [scells_length] at this
 rw [scells_at hj] at hv
 rw [Nat.zero_add, h.cell j hj, hv]
theorem Img.snew {w : World} {t : TypeId} : Img (w.alloc (.cells (P.scells c s).toArray t (0, 0))) w.heap.size 81 (simg c s) := by
 refine Img.of_cells (heap_alloc_new w _) (by rw [List.size_toArray, scells_length]) fun j hj => ?_
 rw [List.getElem?_toArray, scells_at hj]
end Go.Proofs.YtfpoicdfkjbknaaDoor.P
