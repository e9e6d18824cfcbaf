/- A machine as a block of 108 cells: the code, 11 registers, 16 slots, 8 words that are told, 16 words of cells, the time, what is given out. No conditions. -/
import Derived.Test.YtfpoicdfkjbknaaDoorPureMach
namespace Go.Proofs.YtfpoicdfkjbknaaDoor.P
open Go.RowKit
set_option linter.unusedSimpArgs false
set_option linter.unusedVariables false

/-- a value's three cells -/
def vcell (v : Val) (k : Nat) : Value := .int .i64 (if k = 0 then v.kind else if k = 1 then v.n else v.cell)
theorem vcell_0 (v : Val) : vcell v 0 = .int .i64 v.kind := rfl
theorem vcell_1 (v : Val) : vcell v 1 = .int .i64 v.n := rfl
theorem vcell_2 (v : Val) : vcell v 2 = .int .i64 v.cell := rfl
def mimg (code : Value) (told : Nat → Int) (time : Int) (out : Value) (M : Mach) : Nat → Value := fun j =>
  if j = 0 then code else if j < 34 then vcell (M.regs ((j - 1) / 3)) ((j - 1) % 3) else if j < 82 then vcell (M.slots ((j - 34) / 3)) ((j - 34) % 3)
  else if j < 90 then .int .i64 (told (j - 82)) else if j < 106 then .int .i64 (M.cells (j - 90)) else if j = 106 then .int .i64 time else out

variable {code : Value} {told : Nat → Int} {time : Int} {out : Value} {M : Mach}
theorem mimg_reg {r k j : Nat} (hr : r < 11) (hk : k < 3) (hj : j = 1 + r * 3 + k) : mimg code told time out M j = vcell (M.regs r) k := by
  subst hj; unfold mimg
  rw [if_neg (by omega), if_pos (by omega), show (1 + r * 3 + k - 1) / 3 = r by omega, show (1 + r * 3 + k - 1) % 3 = k by omega]
theorem mimg_slot {r k j : Nat} (hr : r < 16) (hk : k < 3) (hj : j = 34 + r * 3 + k) : mimg code told time out M j = vcell (M.slots r) k := by
  subst hj; unfold mimg
  rw [if_neg (by omega), if_neg (by omega), if_pos (by omega), show (34 + r * 3 + k - 34) / 3 = r by omega, show (34 + r * 3 + k - 34) % 3 = k by omega]
theorem mimg_told {r j : Nat} (hr : r < 8) (hj : j = 82 + r) : mimg code told time out M j = .int .i64 (told r) := by
  subst hj; unfold mimg
  rw [if_neg (by omega), if_neg (by omega), if_neg (by omega), if_pos (by omega), show 82 + r - 82 = r by omega]
theorem mimg_cells {r j : Nat} (hr : r < 16) (hj : j = 90 + r) : mimg code told time out M j = .int .i64 (M.cells r) := by
  subst hj; unfold mimg
  rw [if_neg (by omega), if_neg (by omega), if_neg (by omega), if_neg (by omega), if_pos (by omega), show 90 + r - 90 = r by omega]
theorem mimg_time : mimg code told time out M 106 = .int .i64 time := rfl
theorem mimg_out : mimg code told time out M 107 = out := rfl
theorem mimg_code : mimg code told time out M 0 = code := rfl

/-- a register is stored -/
theorem mimg_setreg {r : Nat} (hr : r < 11) (v : Val) : ∀ j, j < 108 → upd (upd (upd (mimg code told time out M) (1 + r * 3) (vcell v 0)) (1 + r * 3 + 1) (vcell v 1)) (1 + r * 3 + 2) (vcell v 2) j =
    mimg code told time out { M with regs := upd M.regs r v } j := by
  intro j hj
  by_cases h2 : j = 1 + r * 3 + 2
  · rw [mimg_reg hr (by omega : 2 < 3) h2, h2, upd_same]; simp [upd_same]
  by_cases h1 : j = 1 + r * 3 + 1
  · rw [mimg_reg hr (by omega : 1 < 3) h1, upd_other h2, h1, upd_same]; simp [upd_same]
  by_cases h0 : j = 1 + r * 3
  · rw [mimg_reg hr (by omega : 0 < 3) h0, upd_other h2, upd_other h1, h0, upd_same]; simp [upd_same]
  rw [upd_other h2, upd_other h1, upd_other h0]
  unfold mimg
  simp only
  split
  · rfl
  split
  · rw [upd_other (by omega)]
  · rfl
theorem mimg_setslot {r : Nat} (hr : r < 16) (v : Val) : ∀ j, j < 108 → upd (upd (upd (mimg code told time out M) (34 + r * 3) (vcell v 0)) (34 + r * 3 + 1) (vcell v 1)) (34 + r * 3 + 2) (vcell v 2) j =
    mimg code told time out { M with slots := upd M.slots r v } j := by
  intro j hj
  by_cases h2 : j = 34 + r * 3 + 2
  · rw [mimg_slot hr (by omega : 2 < 3) h2, h2, upd_same]; simp [upd_same]
  by_cases h1 : j = 34 + r * 3 + 1
  · rw [mimg_slot hr (by omega : 1 < 3) h1, upd_other h2, h1, upd_same]; simp [upd_same]
  by_cases h0 : j = 34 + r * 3
  · rw [mimg_slot hr (by omega : 0 < 3) h0, upd_other h2, upd_other h1, h0, upd_same]; simp [upd_same]
  rw [upd_other h2, upd_other h1, upd_other h0]
  unfold mimg
  simp only
  split
  · rfl
  split
  · rfl
  split
  · rw [upd_other (by omega)]
  · rfl
theorem mimg_setcell {r : Nat} (hr : r < 16) (n : Int) : ∀ j, j < 108 → upd (mimg code told time out M) (90 + r) (.int .i64 n) j = mimg code told time out { M with cells := upd M.cells r n } j := by
  intro j hj
  by_cases h0 : j = 90 + r
  · rw [mimg_cells hr h0, h0, upd_same]; simp [upd_same]
  rw [upd_other h0]
  unfold mimg
  simp only
  split
  · rfl
  split
  · rfl
  split
  · rfl
  split
  · rfl
  split
  · rw [upd_other (by omega)]
  · rfl
theorem mimg_setout (v : Value) (l : List Int) : ∀ j, j < 108 → upd (mimg code told time out M) 107 v j = mimg code told time v { M with out := l } j := by
  intro j hj
  by_cases h0 : j = 107
  · subst h0; rw [upd_same]; rfl
  rw [upd_other h0]
  unfold mimg
  simp only
  repeat' split
  all_goals first | rfl | omega
theorem Img.setReg {w : World} {b : Nat} (h : Img w b 108 (mimg code told time out M)) {r i0 i1 i2 : Nat} (hr : r < 11) (k n c : Int) (e0 : i0 = 1 + r * 3) (e1 : i1 = 1 + r * 3 + 1) (e2 : i2 = 1 + r * 3 + 2) :
    Img (((w.setCell ⟨b, i0, none⟩ (.int .i64 k)).setCell ⟨b, i1, none⟩ (.int .i64 n)).setCell ⟨b, i2, none⟩ (.int .i64 c)) b 108 (mimg code told time out { M with regs := upd M.regs r ⟨k, n, c⟩ }) := by
  subst e0 e1 e2
  exact (((h.set (j := 1 + r * 3) (by omega) (vcell ⟨k, n, c⟩ 0)).set (j := 1 + r * 3 + 1) (by omega) (vcell ⟨k, n, c⟩ 1)).set (j := 1 + r * 3 + 2) (by omega) (vcell ⟨k, n, c⟩ 2)).congr (mimg_setreg hr ⟨k, n, c⟩)
theorem Img.setSlot {w : World} {b : Nat} (h : Img w b 108 (mimg code told time out M)) {r i0 i1 i2 : Nat} (hr : r < 16) (k n c : Int) (e0 : i0 = 34 + r * 3) (e1 : i1 = 34 + r * 3 + 1) (e2 : i2 = 34 + r * 3 + 2) :
    Img (((w.setCell ⟨b, i0, none⟩ (.int .i64 k)).setCell ⟨b, i1, none⟩ (.int .i64 n)).setCell ⟨b, i2, none⟩ (.int .i64 c)) b 108 (mimg code told time out { M with slots := upd M.slots r ⟨k, n, c⟩ }) := by
  subst e0 e1 e2
  exact (((h.set (j := 34 + r * 3) (by omega) (vcell ⟨k, n, c⟩ 0)).set (j := 34 + r * 3 + 1) (by omega) (vcell ⟨k, n, c⟩ 1)).set (j := 34 + r * 3 + 2) (by omega) (vcell ⟨k, n, c⟩ 2)).congr (mimg_setslot hr ⟨k, n, c⟩)
/-- a register's number is stored -/
theorem Img.setRegN {w : World} {b : Nat} (h : Img w b 108 (mimg code told time out M)) {r i : Nat} (hr : r < 11) (n : Int) (e : i = 1 + r * 3 + 1) :
    Img (w.setCell ⟨b, i, none⟩ (.int .i64 n)) b 108 (mimg code told time out { M with regs := upd M.regs r ⟨(M.regs r).kind, n, (M.regs r).cell⟩ }) := by
  subst e
  refine (h.set (j := 1 + r * 3 + 1) (by omega) _).congr fun j hj => ?_
  rw [← mimg_setreg hr ⟨(M.regs r).kind, n, (M.regs r).cell⟩ j hj]
  by_cases h1 : j = 1 + r * 3 + 1
  · rw [h1, upd_same, upd_other (by omega), upd_same]; rfl
  rw [upd_other h1]
  by_cases h2 : j = 1 + r * 3 + 2
  · rw [h2, upd_same, mimg_reg hr (by omega : 2 < 3) rfl]; rfl
  by_cases h0 : j = 1 + r * 3
  · rw [h0, upd_other (by omega), upd_other (by omega), upd_same, mimg_reg hr (by omega : 0 < 3) (by omega)]; rfl
  rw [upd_other h2, upd_other h1, upd_other h0]
theorem Img.setOut {w : World} {b : Nat} (h : Img w b 108 (mimg code told time out M)) (v : Value) (l : List Int) :
    Img (w.setCell ⟨b, 107, none⟩ v) b 108 (mimg code told time v { M with out := l }) := (h.set (j := 107) (by omega) v).congr (mimg_setout v l)
theorem upd_upd {α : Type} (f : Nat → α) (i : Nat) (u v : α) : upd (upd f i u) i v = upd f i v := by
  funext j; by_cases h : j = i
  · subst h; rw [upd_same, upd_same]
  · rw [upd_other h, upd_other h, upd_other h]
end Go.Proofs.YtfpoicdfkjbknaaDoor.P
